/- chain.marks' function 'each', chain.marks. -/
import Derived.Test.YtokfalcmkmelpaaMp
import Derived.Test.YtokfalcmkmelpaaHChain1
import Derived.Test.YtokfalcmkmelpaaWEqStruct
import Derived.Test.YtokfalcmkmelpaaWAt
import Derived.KernelRfl
namespace Go.Proofs.YtokfalcmkmelpaaHChain
set_option linter.unusedSimpArgs false
set_option linter.unusedVariables false
open Go.RowKit Go.Proofs.YtokfalcmkmelpaaW.PrintWords Go.Proofs.YtokfalcmkmelpaaW.PrintLast Go.Proofs.YtokfalcmkmelpaaRF Go.Proofs.YtokfalcmkmelpaaRG Go.Proofs.YtokfalcmkmelpaaMp
attribute [local go_sem] Oper.semAt_some

abbrev Letter := Bool × ByteArray
def kenc (x : Letter) : Value := .agg #[.bool x.1, .string x.2]
def venc (n : Int) : Value := .agg #[.int .i64 n]
def keq (a b : Letter) : Bool := a.1 == b.1 && a.2.toList == b.2.toList

theorem eqA70 (d : Nat) (w : World) (x0 y0 : Bool) (x1 y1 : ByteArray) :
    (Op.equalIn (d + 2) 70 (.agg #[.bool x0, .string x1]) (.agg #[.bool y0, .string y1])).run Try.prog w = .ok (x0 == y0 && x1.toList == y1.toList) w := by
  refine eqA_of Try.underlying70 (by kernel_rfl) ?_
  refine eqf_cons (by rfl) (by go_simp; rfl) (by go_simp; rfl) (by go_simp) ?_
  exact eqf_last (by rfl) (by go_simp; rfl) (by go_simp; rfl) (by go_simp)

theorem toList_inj {a b : ByteArray} (h : a.toList = b.toList) : a = b := by
  have h2 : a.data.toList = b.data.toList := by rw [Go.ByteArray.toList_eq, Go.ByteArray.toList_eq] at h; exact h
  exact ByteArray.ext (Array.toList_inj.1 h2)

theorem letter_law : KeyLaw Try.prog 70 kenc keq where
  check := fun e a w => by cases a; kernel_rfl
  eq := fun a b w => by
    have := eqA70 9998 w a.1 b.1 a.2 b.2
    unfold Op.equal Op.maxDepth
    exact this
  now := ⟨_, Try.underlying70, fun a b => .inl rfl⟩
  bits := fun a b h => by
    obtain ⟨a1, a2⟩ := a
    obtain ⟨b1, b2⟩ := b
    simp only [keq, Bool.and_eq_true, beq_iff_eq] at h
    obtain ⟨rfl, h2⟩ := h
    obtain rfl := toList_inj h2
    exact ⟨rfl, by simp [kenc, Instr.sameBits]; exact (Go.MapKept.bytes_beq a2 a2).mpr rfl⟩
theorem zero_place (w : World) : (zeroValue 67).run Try.prog w = .ok (venc 0) w := by kernel_rfl

theorem of_calls (o : Bool) (c : ByteArray) (n : Int) (w : World) :
    Calls Try.prog 43 #[.agg #[.bool o, .string c, .int .i64 n]] w fun e w' => e = .returned (kenc (o, c)) ∧ Below w.heap.size w w' := by
  have hu := Try.underlying70
  have hu2 := Try.underlying37
  go_enter Try.func43, Try.ntmps43
  go_wp2
  refine bodyPost_ret (v := .agg #[.bool o, .string c]) (by simp [results, Try.results43, go_sem, hu]) rfl ⟨rfl, ?_⟩
  exact (((Below.refl _ _).alloc (Nat.le_refl _) _).alloc (by simp) _)

abbrev Lay := Bool × ByteArray × Int
/-- A slice of layers, in blocks below n₀. -/
def RdL (n₀ : Nat) (w : World) (A : Option Addr) (N : Nat) (ls : Nat → Lay) : Prop :=
  ∀ i, i < N → ∃ ad, A = some ad ∧ ad.block < n₀ ∧ w.cell? (ad.add (i * 3)) = some (.bool (ls i).1) ∧ w.cell? ⟨(ad.add (i * 3)).block, (ad.add (i * 3)).off + 1, none⟩ = some (.string (ls i).2.1) ∧ w.cell? ⟨(ad.add (i * 3)).block, (ad.add (i * 3)).off + 2, none⟩ = some (.int .i64 (ls i).2.2)
theorem add_block (a : Addr) (n : Nat) : (a.add n).block = a.block := by unfold Addr.add; split <;> rfl
theorem RdL.below {n₀ : Nat} {w W : World} {A : Option Addr} {N : Nat} {ls : Nat → Lay} (h : RdL n₀ w A N ls) (hb : Below n₀ w W) : RdL n₀ W A N ls := fun i hi => by
  obtain ⟨ad, h1, h2, h3, h4, h5⟩ := h i hi
  have hbl := add_block ad (i * 3)
  exact ⟨ad, h1, h2, (hb.cell (by rw [hbl]; exact h2)).trans h3, (hb.cell (by rw [hbl]; exact h2)).trans h4, (hb.cell (by rw [hbl]; exact h2)).trans h5⟩

/-- What may happen to memory in a region that boxes one variable of a one-cell type. -/
structure Box1 (T X : Nat) (w w' : World) : Prop where
  mv : Mv (fun k => X ≤ k) w w'
  box : ∀ g c, X ≤ g → w.heap[g]? = some (.cells #[c] T (0, 0)) → ∃ c', w'.heap[g]? = some (.cells #[c'] T (0, 0))
theorem Box1.refl (T X : Nat) (w : World) : Box1 T X w w := ⟨Mv.refl _ _, fun _ c _ h => ⟨c, h⟩⟩
theorem Box1.at {T X : Nat} {A B : World} (h : Box1 T X A B) {k : Nat} {o : Obj} (hk : A.heap[k]? = some o) (hX : k < X) : B.heap[k]? = some o := h.mv.at hk (Nat.not_le.2 hX)
theorem Box1.trans {T X : Nat} {A B C : World} (h : Box1 T X A B) (k : Box1 T X B C) : Box1 T X A C :=
  ⟨h.mv.trans k.mv, fun g c hg hc => by obtain ⟨c', h'⟩ := h.box g c hg hc; exact k.box g c' hg h'⟩
theorem Box1.of_below {T X : Nat} {A B : World} (h : Below A.heap.size A B) : Box1 T X A B :=
  ⟨Mv.of_pure h _, fun g c _ hc => ⟨c, (h.block g (lt_of_at hc)).trans hc⟩⟩

/-! ### 'each' -/
def lt (ls : Nat → Lay) (i : Int) : Letter := ((ls i.toNat).1, (ls i.toNat).2.1)
abbrev ESt := Bool × List (Letter × Int × Nat) × List Bool
def estep (ls : Nat → Lay) (f : Int) (st : ESt) (i : Int) : ESt :=
  if (st.1 || i == f) = true then
    match findIdx keq (lt ls i) st.2.1 0 with
    | some _ => (true, st.2.1, st.2.2)
    | none => (true, st.2.1 ++ [(lt ls i, i, st.2.1.length)], st.2.2.set i.toNat true)
  else (false, st.2.1, st.2.2)
def each (ls : Nat → Lay) (f : Int) (pre : List Int) (ms : List Bool) : ESt := pre.foldl (estep ls f) (false, [], ms)

theorem estep_len (ls : Nat → Lay) (f : Int) (st : ESt) (i : Int) : (estep ls f st i).2.2.length = st.2.2.length := by
  unfold estep
  split
  · split <;> simp
  · rfl
theorem foldl_len (ls : Nat → Lay) (f : Int) : ∀ (pre : List Int) (st : ESt), (pre.foldl (estep ls f) st).2.2.length = st.2.2.length
  | [], _ => rfl
  | x :: r, st => by rw [List.foldl_cons, foldl_len ls f r, estep_len]
theorem mem_idxs {N : Nat} {back : Bool} {x : Int} (h : x ∈ idxs N back) : ∃ k : Nat, k < N ∧ x = k := by
  unfold idxs at h
  obtain ⟨i, hi, rfl⟩ := List.mem_map.1 h
  have hi := List.mem_range.1 hi
  cases back
  · exact ⟨i, hi, by simp [idx]⟩
  · exact ⟨N - 1 - i, by omega, by simp [idx]; omega⟩

/-- The words of the loop in 'each'. -/
structure EI (ls : Nat → Lay) (f : Int) (ms : List Bool) (W0 : World) (Bl Bk Bm : Nat) (vl vk : Value) (pre : List Int) (O : Nat → Prop) (W : World) : Prop where
  fr : Mine W0.heap.size (.cells #[.int .i64 f] 3 (0, 0)) O W
  mp : Mine (W0.heap.size + 1) (MapObj kenc venc (each ls f pre ms).2.1 (each ls f pre ms).2.1.length) O W
  sb : Mine (W0.heap.size + 2) (.cells #[.map (some (W0.heap.size + 1))] 62 (0, 0)) O W
  bg : Mine (W0.heap.size + 3) (.cells #[.bool (each ls f pre ms).1] 4 (0, 0)) O W
  row : Mine Bm (.cells ((each ls f pre ms).2.2.map Value.bool).toArray 58 (0, 0)) O W
  bl : Mine Bl (.cells #[vl] 22 (0, 0)) O W
  bk : Mine Bk (.cells #[vk] 55 (0, 0)) O W
  mv : Mv (fun k => k = Bm) W0 W
  own : ∀ k, O k → W0.heap.size ≤ k
theorem EI.stable (ls : Nat → Lay) (f : Int) (ms : List Bool) (W0 : World) (Bl Bk Bm : Nat) (vl vk : Value) : Stable (EI ls f ms W0 Bl Bk Bm vl vk) := fun s O O' W W' h hm h1 h2 => by
  have hst : ∀ {b : Nat} {o : Obj}, Mine b o O W → Mine b o O' W' := fun hb => Mine.stable (β := Unit) (fun _ => _) (fun _ => _) () O O' W W' hb hm h1 h2
  refine ⟨hst h.fr, hst h.mp, hst h.sb, hst h.bg, hst h.row, hst h.bl, hst h.bk, ?_, fun k hk => (h2 k hk).elim (h.own k) (fun x => by have := h.mv.size; omega)⟩
  exact ⟨hm.os.trans h.mv.os, hm.tape.trans h.mv.tape, hm.output.trans h.mv.output, Nat.le_trans h.mv.size hm.size, fun k hk hno => (hm.block k (Nat.lt_of_lt_of_le hk h.mv.size) (fun e => by have := h.own k e; omega)).trans (h.mv.block k hk hno)⟩

theorem EI.of {ls : Nat → Lay} {f : Int} {ms : List Bool} {W0 : World} {Bl Bk Bm : Nat} {vl vk : Value} {pre : List Int} {O : Nat → Prop} {W : World} {b : Bool} {L : List (Letter × Int × Nat)} {m : List Bool} (h : each ls f pre ms = (b, L, m))
    (fr : Mine W0.heap.size (.cells #[.int .i64 f] 3 (0, 0)) O W) (mp : Mine (W0.heap.size + 1) (MapObj kenc venc L L.length) O W) (sb : Mine (W0.heap.size + 2) (.cells #[.map (some (W0.heap.size + 1))] 62 (0, 0)) O W)
    (bg : Mine (W0.heap.size + 3) (.cells #[.bool b] 4 (0, 0)) O W) (row : Mine Bm (.cells (m.map Value.bool).toArray 58 (0, 0)) O W) (bl : Mine Bl (.cells #[vl] 22 (0, 0)) O W) (bk : Mine Bk (.cells #[vk] 55 (0, 0)) O W)
    (mv : Mv (fun k => k = Bm) W0 W) (own : ∀ k, O k → W0.heap.size ≤ k) : EI ls f ms W0 Bl Bk Bm vl vk pre O W := by
  refine ⟨fr, ?_, sb, ?_, ?_, bl, bk, mv, own⟩
  · rw [h]; exact mp
  · rw [h]; exact bg
  · rw [h]; exact row

set_option maxHeartbeats 1000000 in
theorem each_calls (n₀ N c : Nat) (hN : N ≤ 4611686018427387904) (A : Option Addr) (ls : Nat → Lay) (back : Bool) (f : Int) (ms : List Bool) (hms : ms.length = N) (W0 : World) (Bl Bb Bk Bm : Nat) (cm : Nat) (hl : RdL n₀ W0 A N ls) (hn₀ : n₀ ≤ Bm) (hd1 : Bl ≠ Bm) (hd2 : Bb ≠ Bm) (hd3 : Bk ≠ Bm)
    (hBl : W0.heap[Bl]? = some (.cells #[.slice A N c] 22 (0, 0))) (hBb : W0.heap[Bb]? = some (.cells #[.bool back] 4 (0, 0)))
    (hBk : W0.heap[Bk]? = some (.cells #[.slice (some ⟨Bm, 0, none⟩) N cm] 55 (0, 0))) (hBm : W0.heap[Bm]? = some (.cells (ms.map Value.bool).toArray 58 (0, 0))) :
    Calls Try.prog 44 #[.int .i64 f, .pointer (some ⟨Bl, 0, none⟩), .pointer (some ⟨Bb, 0, none⟩), .pointer (some ⟨Bk, 0, none⟩)] W0 fun e W' =>
      e = .returned (.tuple #[]) ∧ Mv (fun k => k = Bm) W0 W' ∧ W'.heap[Bm]? = some (.cells ((each ls f (idxs N back) ms).2.2.map Value.bool).toArray 58 (0, 0)) := by
  refine (callsIn_wide (n := 5)).1 ?_
  refine callsIn_of_wp_marks Try.func44 rfl trivial ?_ rfl
  simp only [Try.ntmps44, List.size_toArray, List.length_cons, List.length_nil, Nat.reduceAdd, Nat.reduceSub, Array.replicate_succ, Array.replicate_zero, List.push_toArray, List.append_toArray, List.nil_append, List.cons_append]
  have hmm := @run_makeMap Try.prog
  have hc1 := cell_at hBl 0
  have hc2 := cell_at hBb 0
  simp only [List.getElem?_toArray, List.getElem?_cons_zero] at hc1 hc2
  have hlt1 := lt_of_at hBl
  have hlt2 := lt_of_at hBb
  have hlt3 := lt_of_at hBk
  have hlt4 := lt_of_at hBm
  have hf1 := cell_at (at_alloc (at_alloc (at_alloc (at_alloc hBl (.cells #[.int .i64 f] 3)) (.map #[] 0)) (.cells #[.map (some (W0.heap.size + 1))] 62)) (.cells #[.bool false] 4)) 0
  have hf2 := cell_at (at_alloc (at_alloc (at_alloc (at_alloc hBb (.cells #[.int .i64 f] 3)) (.map #[] 0)) (.cells #[.map (some (W0.heap.size + 1))] 62)) (.cells #[.bool false] 4)) 0
  simp only [List.getElem?_toArray, List.getElem?_cons_zero] at hf1 hf2
  gi_wp2_with (refine ⟨trivial, ?_⟩; gi_at_call 42; refine ((callsIn_wide (n := 4)).2 (walk_calls _ _ _)).mono ?_; rintro e w' ⟨rfl, rfl⟩)
  clear hf1 hf2 hc1 hc2
  try simp only [World.size_alloc]
  obtain ⟨W1, hW1⟩ : ∃ W1 : World, W1 = ((((((W0.alloc (.cells #[.int .i64 f] 3)).alloc (.map #[] 0)).alloc (.cells #[.map (some (W0.heap.size + 1))] 62)).alloc (.cells #[.bool false] 4)).alloc (.cells #[.int .i64 (N : Int)] 3)).alloc (.cells #[.bool back] 4)) := ⟨_, rfl⟩
  rw [← hW1]
  have hsz : W1.heap.size = W0.heap.size + 6 := by rw [hW1]; simp
  have hmv : Mv (fun _ => False) W0 W1 := by rw [hW1]; exact ((((((Mv.refl _ _).alloc _).alloc _).alloc _).alloc _).alloc _).alloc _
  have b0 : W1.heap[W0.heap.size]? = some (.cells #[.int .i64 f] 3 (0, 0)) := by rw [hW1]; exact at_alloc (at_alloc (at_alloc (at_alloc (at_alloc (at_new _ _ rfl) _) _) _) _) _
  have b1 : W1.heap[W0.heap.size + 1]? = some (.map #[] 0) := by rw [hW1]; exact at_alloc (at_alloc (at_alloc (at_alloc (at_new _ _ (by simp)) _) _) _) _
  have b2 : W1.heap[W0.heap.size + 2]? = some (.cells #[.map (some (W0.heap.size + 1))] 62 (0, 0)) := by rw [hW1]; exact at_alloc (at_alloc (at_alloc (at_new _ _ (by simp)) _) _) _
  have b3 : W1.heap[W0.heap.size + 3]? = some (.cells #[.bool false] 4 (0, 0)) := by rw [hW1]; exact at_alloc (at_alloc (at_new _ _ (by simp)) _) _
  have b4 : W1.heap[W0.heap.size + 4]? = some (.cells #[.int .i64 (N : Int)] 3 (0, 0)) := by rw [hW1]; exact at_alloc (at_new _ _ (by simp)) _
  have b5 : W1.heap[W0.heap.size + 5]? = some (.cells #[.bool back] 4 (0, 0)) := by rw [hW1]; exact at_new _ _ (by simp)
  clear hW1
  refine rf_loop (n := 5) rfl (by omega) 48 #[.pointer (some ⟨W0.heap.size + 4, 0, none⟩), .pointer (some ⟨W0.heap.size + 5, 0, none⟩)] rfl trivial (enters_ Try.func48 (by kernel_rfl) rfl)
    (fun i : Int => #[.int .i64 i]) (fun _ => rfl) (fun k => k = W0.heap.size + 4 ∨ k = W0.heap.size + 5) (fun _ => False) (fun k hk => by rcases hk with rfl | rfl <;> omega) (fun _ h => h.elim)
    (walk1_iter 4 (by omega) N hN back _ _ W1 b4 b5) (EI ls f ms W0 Bl Bk Bm (.slice A N c) (.slice (some ⟨Bm, 0, none⟩) N cm)) (fun _ _ _ _ => False) (EI.stable ls f ms W0 Bl Bk Bm _ _) (fun _ _ _ _ _ _ h _ _ _ => h.elim) ?_
    (fun x => { tmps := #[.int .i64 f, .pointer (some ⟨Bl, 0, none⟩), .pointer (some ⟨Bb, 0, none⟩), .pointer (some ⟨Bk, 0, none⟩), .pointer (some ⟨W0.heap.size, 0, none⟩), .pointer (some ⟨W0.heap.size + 1 + 1, 0, none⟩), .pointer (some ⟨W0.heap.size + 1 + 1 + 1, 0, none⟩), .int .i64 x, undef, undef, .map (some (W0.heap.size + 1)), .slice A N c, .int .i64 (N : Int), .bool back, .func (.func 48) #[] #[.pointer (some ⟨W0.heap.size + 4, 0, none⟩), .pointer (some ⟨W0.heap.size + 5, 0, none⟩)], .int .i64 x,
      undef, undef, undef, undef, undef, undef, undef, undef, undef, undef, undef, undef, undef, undef, undef, undef, undef, undef, undef, undef, undef, undef, undef, undef, undef, undef, undef, undef, undef, undef, undef, undef], defers := [] }) ?assign ?body ?done (fun _ _ _ _ _ _ _ _ h _ => h.elim)
  · intro O hO W hW
    have hno : ∀ k, k < W0.heap.size + 4 → ¬ O k := fun k hk e => by rcases hO k e with (h | h) | h <;> omega
    have go : ∀ {b : Nat} {o : Obj}, W1.heap[b]? = some o → b < W0.heap.size + 4 → Mine b o O W := fun h hlt => ⟨hW.at h (fun h => h), hno _ hlt⟩
    have up : ∀ {b : Nat} {o : Obj}, W0.heap[b]? = some o → Mine b o O W := fun h => go (hmv.at h (fun h => h)) (by have := lt_of_at h; omega)
    exact ⟨go b0 (by omega), go b1 (by omega), go b2 (by omega), go b3 (by omega), up hBm, up hBl, up hBk, (hmv.trans hW).mono (fun _ _ h => h.elim), fun k hk => by rcases hO k hk with (h | h) | h <;> omega⟩
  case assign =>
    intro l x W K hK
    gi_wp2
    exact hK
  case body =>
    intro l pre x O W hI hpre hOl hOlp hrec hOO hsz2
    have hst : each ls f (pre ++ [x]) ms = estep ls f (each ls f pre ms) x := by simp [each]
    have hlen : (each ls f pre ms).2.2.length = N := by unfold each; rw [foldl_len]; exact hms
    obtain ⟨xi, hxi, rfl⟩ : ∃ xi : Nat, xi < N ∧ x = xi := mem_idxs (N := N) (back := back) (hpre.subset (by simp))
    obtain ⟨fr, mp, sb, bg, row, bl, bk, mv, own⟩ := hI
    obtain ⟨st, hstE⟩ : ∃ st, st = each ls f pre ms := ⟨_, rfl⟩
    rw [← hstE] at mp bg row hst hlen
    obtain ⟨b, L, m⟩ := st
    simp only at mp bg row hlen
    have hlW : RdL n₀ W A N ls := hl.below (mv.below (by omega) (fun k e => by omega))
    obtain ⟨ad, rfl, hadlt, hx0, hx1, hx2⟩ := hlW xi hxi
    have c4 := cell_at fr.1 0
    have c5 := cell_at sb.1 0
    have c6 := cell_at bg.1 0
    have f6 := free_at bg.1 0
    have cl := cell_at bl.1 0
    have ck := cell_at bk.1 0
    simp only [List.getElem?_toArray, List.getElem?_cons_zero] at c4 c5 c6 cl ck
    have HST := Aside0.mk hst
    have HE := Aside0.mk hstE
    have FR := Aside0.mk fr
    have MP := Aside0.mk mp
    have SB := Aside0.mk sb
    have BG := Aside0.mk bg
    have ROW := Aside0.mk row
    have BL := Aside0.mk bl
    have BK := Aside0.mk bk
    have MV := Aside0.mk mv
    have OWN := Aside0.mk own
    have HL := Aside0.mk hlW
    have HOL := Aside0.mk hOl
    have HLEN := Aside0.mk hlen
    have HLT := Aside0.mk (And.intro hlt1 (And.intro hlt2 (And.intro hlt3 hlt4)))
    clear hst hstE fr mp sb bg row bl bk mv own hlW hOl hlen hl hBl hBb hBk hBm b0 b1 b2 b3 b4 b5 hmv hrec hOO hmm hlt1 hlt2 hlt3 hlt4 hms
    have h03 : W0.heap.size + 1 + 1 + 1 = W0.heap.size + 3 := rfl
    have H03 := Aside0.mk h03
    clear h03
    cases b
    · cases hxf : ((xi : Int) == f)
      · gi_wp2
        obtain ⟨q1, q2, q3, q4⟩ := HLT.out
        have hs : each ls f (pre ++ [(xi : Int)]) ms = (false, L, m) := by rw [HST.out]; simp [estep, hxf]
        refine ⟨(Mv.refl _ _).setCell (.inl BG.out.2) _, ?_⟩
        exact EI.of hs (FR.out.set (by simp <;> omega) _) (MP.out.set (by simp <;> omega) _) (SB.out.set (by simp <;> omega) _) (BG.out.one _) (ROW.out.set (by simp <;> omega) _) (BL.out.set (by simp <;> omega) _) (BK.out.set (by simp <;> omega) _) (MV.out.setCell (.inr (by simp <;> omega)) _) OWN.out
      · clear c5 cl ck
        gi_wp2
        have HXF := Aside0.mk hxf
        clear hxf
        obtain ⟨q1, q2, q3, q4⟩ := HLT.out
        obtain ⟨W2, hW2⟩ : ∃ W2 : World, W2 = W.setCell ⟨W0.heap.size + 1 + 1 + 1, 0, none⟩ (.bool true) := ⟨_, rfl⟩
        rw [← hW2]
        have fr2 := Aside0.mk (show Mine _ _ O W2 by rw [hW2]; exact FR.out.set (by simp <;> omega) _)
        have mp2 := Aside0.mk (show Mine _ _ O W2 by rw [hW2]; exact MP.out.set (by simp <;> omega) _)
        have sb2 := Aside0.mk (show Mine _ _ O W2 by rw [hW2]; exact SB.out.set (by simp <;> omega) _)
        have bg2 := Aside0.mk (show Mine _ (.cells #[.bool true] 4 (0, 0)) O W2 by rw [hW2]; exact BG.out.one _)
        have row2 := Aside0.mk (show Mine _ _ O W2 by rw [hW2]; exact ROW.out.set (by simp <;> omega) _)
        have bl2 := Aside0.mk (show Mine _ _ O W2 by rw [hW2]; exact BL.out.set (by simp <;> omega) _)
        have bk2 := Aside0.mk (show Mine _ _ O W2 by rw [hW2]; exact BK.out.set (by simp <;> omega) _)
        have mv2 := Aside0.mk (show Mv _ W0 W2 by rw [hW2]; exact MV.out.setCell (.inr (by simp <;> omega)) _)
        have HL2 := Aside0.mk (show RdL n₀ W2.drew (some ad) N ls from HL.out.below (by rw [hW2]; exact ((Below.refl n₀ W).setCell (p := ⟨W0.heap.size + 1 + 1 + 1, 0, none⟩) (by simp <;> omega) _).drew))
        have HN := Aside0.mk (show n₀ ≤ W2.drew.heap.size by have := MV.out.size; rw [hW2]; simp [World.setCell]; omega)
        have mvW := Aside0.mk (show Mv (fun k => ¬ O k) W W2 by rw [hW2]; exact (Mv.refl _ _).setCell (.inl BG.out.2) _)
        clear hW2 FR MP SB BG ROW BL BK MV c4 c6 f6 hx0 hx1 hx2
        clear q1 q2 q3 q4
        have hX : ∀ {k : Nat} {o : Obj}, W2.heap[k]? = some o → k < W2.drew.heap.size := fun h => lt_of_at h
        have HX := Aside0.mk @hX
        clear hX
        rcases hfi : findIdx keq (lt ls xi) L 0 with _ | ⟨fi, fv⟩
        · have HFI := Aside0.mk hfi
          clear hfi
          refine rg_regionIn (N := 48) 12 (Box1 67 W2.drew.heap.size) (by kernel_rfl) (by kernel_rfl) (by kernel_rfl) (fun _ _ h => h) rfl (Box1.refl _ _) (Box1.trans) ?_
          rw [show List.range 12 = [0, 1, 2, 3, 4, 5, 6, 7, 8, 9, 10, 11] from rfl]
          refine rg_val (.map (some (W0.heap.size + 1))) (Box1.refl _ _) rfl (fun _ _ _ _ => wanted_none rfl) ?_ ?_
          · intro a w' hr hs
            have h5 := hs.out 5 (by kernel_rfl)
            have hc := cell_at (hr.at sb2.out.1 (HX.out sb2.out.1)) 0
            go_simp
          refine rg_val (.slice (some ad) N c) (Box1.refl _ _) rfl (fun _ _ _ _ => wanted_none rfl) ?_ ?_
          · intro a w' hr hs
            have h5 := hs.out 1 (by kernel_rfl)
            have hc := cell_at (hr.at bl2.out.1 (HX.out bl2.out.1)) 0
            go_simp
          refine rg_val (.int .i64 xi) (Box1.refl _ _) rfl (fun _ _ _ _ => wanted_none rfl) ?_ ?_
          · intro a w' hr hs
            have h5 := hs.out 7 (by kernel_rfl)
            go_simp
          refine rg_val (.pointer (some (ad.add (xi * 3)))) (Box1.refl _ _) rfl (fun _ _ _ _ => wanted_none rfl) ?_ ?_
          · intro a w' hr hs
            have h5 := hs.get 1 rfl (by kernel_rfl) rfl
            have h6 := hs.get 0 rfl (by kernel_rfl) rfl
            simp only at h5 h6
            go_simp
          refine rg_val (.agg #[.bool (ls xi).1, .string (ls xi).2.1, .int .i64 (ls xi).2.2]) (Box1.refl _ _) rfl (fun _ _ _ _ => wanted_none rfl) ?_ ?_
          · intro a w' hr hs
            have h5 := hs.get 0 rfl (by kernel_rfl) rfl
            simp only at h5
            have hu := Try.underlying37
            obtain ⟨ad', e1, _, x0, x1, x2⟩ := (HL2.out.below (hr.mv.below HN.out (fun k h => Nat.le_trans HN.out h))) xi hxi
            cases e1
            go_simp
          refine rg_call (fun v _ => v = kenc (lt ls xi)) (fun _ _ _ _ h => h) rfl rfl Try.func43 (by kernel_rfl) rfl (fun _ _ _ _ => wanted_none rfl) ?_ ?_
          · intro a w' hr hs
            have h5 := hs.get 0 rfl (by kernel_rfl) rfl
            simp only at h5
            have h6 : (#[Operand.tmp 29] : Array Operand).map a.eval = #[.agg #[.bool (ls xi).1, .string (ls xi).2.1, .int .i64 (ls xi).2.2]] := by simp [Act.eval, h5]
            rw [h6]
            refine (of_calls _ _ _ _).mono ?_
            rintro e w2 ⟨rfl, hb⟩
            exact ⟨_, rfl, Box1.of_below hb, rfl⟩
          refine rg_val ((.tuple #[(venc 0), .bool false])) (Box1.refl _ _) rfl (fun _ _ _ _ => wanted_none rfl) ?_ ?_
          · intro a w' hr hs
            have h5 := hs.get 5 rfl (by kernel_rfl) rfl
            have h6 := hs.get 0 rfl (by kernel_rfl) rfl
            simp only at h5 h6
            have hlk := lookup_ok (T := 62) letter_law Try.underlying62 zero_place (hr.at mp2.out.1 (HX.out mp2.out.1)) (lt ls xi)
            rw [HFI.out] at hlk
            simp only at hlk
            go_simp
          refine rg_val ((.tuple #[(venc 0), .bool false])) (Box1.refl _ _) rfl (fun _ _ _ _ => wanted_none rfl) ?_ ?_
          · intro a w' hr hs
            have h5 := hs.get 0 rfl (by kernel_rfl) rfl
            simp only at h5
            go_simp
          refine rg_val ((venc 0)) (Box1.refl _ _) rfl (fun _ _ _ _ => wanted_none rfl) ?_ ?_
          · intro a w' hr hs
            have h5 := hs.get 0 rfl (by kernel_rfl) rfl
            simp only at h5
            go_simp
          refine rg_val (.bool false) (Box1.refl _ _) rfl (fun _ _ _ _ => wanted_none rfl) ?_ ?_
          · intro a w' hr hs
            have h5 := hs.get 1 rfl (by kernel_rfl) rfl
            simp only at h5
            go_simp
          refine rg_run (fun v w => ∃ g, v = .pointer (some ⟨g, 0, none⟩) ∧ W2.drew.heap.size ≤ g ∧ ∃ c, w.heap[g]? = some (.cells #[c] 67 (0, 0))) (fun v w w' hr h => by obtain ⟨g, h1, h2, c, h3⟩ := h; exact ⟨g, h1, h2, hr.box g c h2 h3⟩) rfl (fun _ _ _ _ => wanted_none rfl) ?_ ?_
          · intro a w' hr hs
            refine ⟨.pointer (some ⟨w'.heap.size, 0, none⟩), w'.alloc (.cells #[.int .i64 0] 67), ?_, ⟨(Mv.refl _ _).alloc _, fun g c _ h => ⟨c, at_alloc h _⟩⟩, ⟨_, rfl, hr.mv.size, _, at_new _ _ rfl⟩⟩
            have hz := zero_place
            unfold venc at hz
            go_simp
          refine rg_skip (fun _ => True) (fun _ _ _ _ => trivial) rfl (fun _ _ _ _ => wanted_none rfl) ?_ ?_
          · intro a w' hr hs
            obtain ⟨g, h1, h2, c, h3⟩ := hs.get 0 rfl (by kernel_rfl) rfl
            have h4 := hs.get 2 rfl (by kernel_rfl) rfl
            simp only at h1 h4
            have hc := cell_at h3 0
            have hf := free_at h3 0
            have hu := Try.underlying67
            refine ⟨w'.setCell ⟨g, 0, none⟩ (.int .i64 0), ?_, ⟨(Mv.refl _ _).setCell (.inl h2) _, fun g' c' hg' h' => ?_⟩, trivial⟩
            · unfold venc at h4
              go_simp
            · by_cases hgg : g' = g
              · subst hgg; exact ⟨_, by simpa using set_at h' 0 _⟩
              · exact ⟨c', at_set h' hgg _⟩
          intro vs w3 hr hE
          rw [show List.range 12 = [0, 1, 2, 3, 4, 5, 6, 7, 8, 9, 10, 11] from rfl]
          simp only [List.mem_cons, List.not_mem_nil, or_false, forall_eq_or_imp, forall_eq] at hE
          obtain ⟨_, ⟨gx, hg1, hg2, _⟩, g9, g8, g7, g6, g5, g4, g3, g2, g1, g0⟩ := hE
          simp only [putL, slotOf, List.getElem?_toArray, List.getElem?_cons_succ, List.getElem?_cons_zero, Option.bind_some, Act.put, List.setIfInBounds_toArray, List.set_cons_succ, List.set_cons_zero, hg1, g9, g8, g7, g6, g5, g4, g3, g2, g1, g0]
          refine tail_val (i := 12) (r := []) (w' := w3) (.bool false) rfl (wanted_none rfl) (by go_simp) (tail_end ?_)
          clear hg1 g9 g8 g7 g6 g5 g4 g3 g2 g1 g0
          simp only [Act.put, List.setIfInBounds_toArray, List.set_cons_succ, List.set_cons_zero]
          have hXX : ∀ {k : Nat} {o : Obj}, Mine k o O W2 → Mine k o O w3 := fun h => ⟨hr.at h.1 (HX.out h.1), h.2⟩
          have mv3 := Aside0.mk (mv2.out.drew.trans (hr.mv.mono (fun k h1 h2 => absurd h1 (Nat.not_lt.2 h2))))
          have mvW3 := Aside0.mk (mvW.out.drew.trans (hr.mv.mono (fun k h1 h2 => absurd h1 (Nat.not_lt.2 h2))))
          have fr3 := Aside0.mk (hXX fr2.out)
          have mp3 := Aside0.mk (hXX mp2.out)
          have sb3 := Aside0.mk (hXX sb2.out)
          have bg3 := Aside0.mk (hXX bg2.out)
          have row3 := Aside0.mk (hXX row2.out)
          have bl3 := Aside0.mk (hXX bl2.out)
          have bk3 := Aside0.mk (hXX bk2.out)
          have HL3 := Aside0.mk ((HL2.out.below (hr.mv.below HN.out (fun k h => Nat.le_trans HN.out h))).below ((Below.refl n₀ w3).drew))
          have HN3 := Aside0.mk (Nat.le_trans HN.out hr.mv.size)
          clear hXX hr
          gi_wp2
          refine rg_regionIn (N := 48) 8 (Box1 67 w3.drew.heap.size) (by kernel_rfl) (by kernel_rfl) (by kernel_rfl) (fun _ _ h => h) rfl (Box1.refl _ _) (Box1.trans) ?_
          rw [show List.range 8 = [0, 1, 2, 3, 4, 5, 6, 7] from rfl]
          refine rg_val (.map (some (W0.heap.size + 1))) (Box1.refl _ _) rfl (fun _ _ _ _ => wanted_none rfl) ?_ ?_
          · intro a w' hr hs
            have h5 := hs.out 5 (by kernel_rfl)
            have hc := cell_at (hr.at sb3.out.1 (lt_of_at sb3.out.1)) 0
            go_simp
          refine rg_val (.slice (some ad) N c) (Box1.refl _ _) rfl (fun _ _ _ _ => wanted_none rfl) ?_ ?_
          · intro a w' hr hs
            have h5 := hs.out 1 (by kernel_rfl)
            have hc := cell_at (hr.at bl3.out.1 (lt_of_at bl3.out.1)) 0
            go_simp
          refine rg_val (.int .i64 xi) (Box1.refl _ _) rfl (fun _ _ _ _ => wanted_none rfl) ?_ ?_
          · intro a w' hr hs
            have h5 := hs.out 7 (by kernel_rfl)
            go_simp
          refine rg_val (.pointer (some (ad.add (xi * 3)))) (Box1.refl _ _) rfl (fun _ _ _ _ => wanted_none rfl) ?_ ?_
          · intro a w' hr hs
            have h5 := hs.get 1 rfl (by kernel_rfl) rfl
            have h6 := hs.get 0 rfl (by kernel_rfl) rfl
            simp only at h5 h6
            go_simp
          refine rg_val (.agg #[.bool (ls xi).1, .string (ls xi).2.1, .int .i64 (ls xi).2.2]) (Box1.refl _ _) rfl (fun _ _ _ _ => wanted_none rfl) ?_ ?_
          · intro a w' hr hs
            have h5 := hs.get 0 rfl (by kernel_rfl) rfl
            simp only at h5
            have hu := Try.underlying37
            obtain ⟨ad', e1, _, x0, x1, x2⟩ := (HL3.out.below (hr.mv.below HN3.out (fun k h => Nat.le_trans HN3.out h))) xi hxi
            cases e1
            go_simp
          refine rg_call (fun v _ => v = kenc (lt ls xi)) (fun _ _ _ _ h => h) rfl rfl Try.func43 (by kernel_rfl) rfl (fun _ _ _ _ => wanted_none rfl) ?_ ?_
          · intro a w' hr hs
            have h5 := hs.get 0 rfl (by kernel_rfl) rfl
            simp only at h5
            have h6 : (#[Operand.tmp 40] : Array Operand).map a.eval = #[.agg #[.bool (ls xi).1, .string (ls xi).2.1, .int .i64 (ls xi).2.2]] := by simp [Act.eval, h5]
            rw [h6]
            refine (of_calls _ _ _ _).mono ?_
            rintro e w2 ⟨rfl, hb⟩
            exact ⟨_, rfl, Box1.of_below hb, rfl⟩
          refine rg_val (.int .i64 xi) (Box1.refl _ _) rfl (fun _ _ _ _ => wanted_none rfl) ?_ ?_
          · intro a w' hr hs
            have h5 := hs.out 7 (by kernel_rfl)
            go_simp
          refine rg_val (venc xi) (Box1.refl _ _) rfl (fun _ _ _ _ => wanted_none rfl) ?_ ?_
          · intro a w' hr hs
            have h5 := hs.get 0 rfl (by kernel_rfl) rfl
            simp only at h5
            have hu := Try.underlying67
            unfold venc
            go_simp
          intro vs w4 hr hE
          rw [show List.range 8 = [0, 1, 2, 3, 4, 5, 6, 7] from rfl]
          simp only [List.mem_cons, List.not_mem_nil, or_false, forall_eq_or_imp, forall_eq] at hE
          obtain ⟨g7, g6, g5, g4, g3, g2, g1, g0⟩ := hE
          simp only [putL, slotOf, List.getElem?_toArray, List.getElem?_cons_succ, List.getElem?_cons_zero, Option.bind_some, Act.put, List.setIfInBounds_toArray, List.set_cons_succ, List.set_cons_zero, g7, g6, g5, g4, g3, g2, g1, g0]
          clear g7 g6 g5 g4 g3 g2 g1 g0
          have hXX : ∀ {k : Nat} {o : Obj}, Mine k o O w3 → Mine k o O w4 := fun h => ⟨hr.at h.1 (lt_of_at h.1), h.2⟩
          have hup := update_run (P := Try.prog) (T := 62) letter_law Try.underlying62 (hXX mp3.out).1 (lt ls xi) (xi : Int)
          obtain ⟨w5, hw5⟩ : ∃ w5 : World, w5 = w4.putObj (W0.heap.size + 1) (MapObj kenc venc (upd keq (lt ls xi) (xi : Int) L.length L).1 (upd keq (lt ls xi) (xi : Int) L.length L).2) := ⟨_, rfl⟩
          rw [← hw5] at hup
          have hUP := hup
          refine tail_skip (i := 8) (r := []) (w' := w5) rfl (wanted_none rfl) (by go_simp) (tail_end ?_)
          obtain ⟨q1, q2, q3, q4⟩ := HLT.out
          have mv4 := Aside0.mk (show Mv _ W0 w5 by rw [hw5]; exact (mv3.out.drew.trans (hr.mv.mono (fun k h1 h2 => absurd h1 (Nat.not_lt.2 h2)))).putObj (.inr (by omega)) _)
          have mvW4 := Aside0.mk (show Mv (fun k => ¬ O k) W w5 by rw [hw5]; exact (mvW3.out.drew.trans (hr.mv.mono (fun k h1 h2 => absurd h1 (Nat.not_lt.2 h2)))).putObj (.inl mp3.out.2) _)
          have fr4 := Aside0.mk (show Mine _ _ O w5 by rw [hw5]; exact (hXX fr3.out).put (by omega) _)
          have mp4 := Aside0.mk (show Mine _ _ O w5 by rw [hw5]; exact ⟨World.putObj_heap_same (lt_of_at (hXX mp3.out).1), mp3.out.2⟩)
          have sb4 := Aside0.mk (show Mine _ _ O w5 by rw [hw5]; exact (hXX sb3.out).put (by omega) _)
          have bg4 := Aside0.mk (show Mine _ _ O w5 by rw [hw5]; exact (hXX bg3.out).put (by omega) _)
          have row4 := Aside0.mk (show Mine _ _ O w5 by rw [hw5]; exact (hXX row3.out).put (by omega) _)
          have bl4 := Aside0.mk (show Mine _ _ O w5 by rw [hw5]; exact (hXX bl3.out).put (by omega) _)
          have bk4 := Aside0.mk (show Mine _ _ O w5 by rw [hw5]; exact (hXX bk3.out).put (by omega) _)
          clear hXX hr hup hUP hw5 q1 q2 q3 q4
          have hck := cell_at bk4.out.1 0
          have hcm := cell_at row4.out.1 xi
          have hfm := free_at row4.out.1 xi
          have hmx : (m.map Value.bool).toArray[xi]? = some (.bool (m.getD xi false)) := by simp [List.getElem?_map, HLEN.out, hxi]
          rw [hmx] at hcm
          clear hmx
          simp only [List.getElem?_toArray, List.getElem?_cons_zero] at hck
          simp only [Act.put, List.setIfInBounds_toArray, List.set_cons_succ, List.set_cons_zero]
          gi_wp2
          obtain ⟨q1, q2, q3, q4⟩ := HLT.out
          have hs : each ls f (pre ++ [(xi : Int)]) ms = (true, L ++ [(lt ls xi, (xi : Int), L.length)], m.set xi true) := by rw [HST.out]; simp [estep, HFI.out, HXF.out]
          have hupd : upd keq (lt ls xi) (xi : Int) L.length L = (L ++ [(lt ls xi, (xi : Int), L.length)], L.length + 1) := by simp [upd, HFI.out]
          have mp5 : Mine (W0.heap.size + 1) (MapObj kenc venc (L ++ [(lt ls xi, (xi : Int), L.length)]) (L ++ [(lt ls xi, (xi : Int), L.length)]).length) O w5 := by
            have := mp4.out
            rw [hupd] at this
            simpa using this
          refine ⟨(mvW4.out.setCell (.inl row4.out.2) _).mono (fun k _ h => by simpa using h), EI.of hs (fr4.out.set (by simp <;> omega) _) (mp5.set (by simp <;> omega) _) (sb4.out.set (by simp <;> omega) _) (bg4.out.set (by simp <;> omega) _) ⟨?_, row4.out.2⟩ (bl4.out.set (by simp <;> omega) _) (bk4.out.set (by simp <;> omega) _) (mv4.out.setCell (.inl rfl) _) OWN.out⟩
          have := set_at row4.out.1 xi (.bool true)
          rw [this]
          congr 2
          simp [List.map_set]
        · have HFI := Aside0.mk hfi
          clear hfi
          refine rg_regionIn (N := 48) 12 (Box1 67 W2.drew.heap.size) (by kernel_rfl) (by kernel_rfl) (by kernel_rfl) (fun _ _ h => h) rfl (Box1.refl _ _) (Box1.trans) ?_
          rw [show List.range 12 = [0, 1, 2, 3, 4, 5, 6, 7, 8, 9, 10, 11] from rfl]
          refine rg_val (.map (some (W0.heap.size + 1))) (Box1.refl _ _) rfl (fun _ _ _ _ => wanted_none rfl) ?_ ?_
          · intro a w' hr hs
            have h5 := hs.out 5 (by kernel_rfl)
            have hc := cell_at (hr.at sb2.out.1 (HX.out sb2.out.1)) 0
            go_simp
          refine rg_val (.slice (some ad) N c) (Box1.refl _ _) rfl (fun _ _ _ _ => wanted_none rfl) ?_ ?_
          · intro a w' hr hs
            have h5 := hs.out 1 (by kernel_rfl)
            have hc := cell_at (hr.at bl2.out.1 (HX.out bl2.out.1)) 0
            go_simp
          refine rg_val (.int .i64 xi) (Box1.refl _ _) rfl (fun _ _ _ _ => wanted_none rfl) ?_ ?_
          · intro a w' hr hs
            have h5 := hs.out 7 (by kernel_rfl)
            go_simp
          refine rg_val (.pointer (some (ad.add (xi * 3)))) (Box1.refl _ _) rfl (fun _ _ _ _ => wanted_none rfl) ?_ ?_
          · intro a w' hr hs
            have h5 := hs.get 1 rfl (by kernel_rfl) rfl
            have h6 := hs.get 0 rfl (by kernel_rfl) rfl
            simp only at h5 h6
            go_simp
          refine rg_val (.agg #[.bool (ls xi).1, .string (ls xi).2.1, .int .i64 (ls xi).2.2]) (Box1.refl _ _) rfl (fun _ _ _ _ => wanted_none rfl) ?_ ?_
          · intro a w' hr hs
            have h5 := hs.get 0 rfl (by kernel_rfl) rfl
            simp only at h5
            have hu := Try.underlying37
            obtain ⟨ad', e1, _, x0, x1, x2⟩ := (HL2.out.below (hr.mv.below HN.out (fun k h => Nat.le_trans HN.out h))) xi hxi
            cases e1
            go_simp
          refine rg_call (fun v _ => v = kenc (lt ls xi)) (fun _ _ _ _ h => h) rfl rfl Try.func43 (by kernel_rfl) rfl (fun _ _ _ _ => wanted_none rfl) ?_ ?_
          · intro a w' hr hs
            have h5 := hs.get 0 rfl (by kernel_rfl) rfl
            simp only at h5
            have h6 : (#[Operand.tmp 29] : Array Operand).map a.eval = #[.agg #[.bool (ls xi).1, .string (ls xi).2.1, .int .i64 (ls xi).2.2]] := by simp [Act.eval, h5]
            rw [h6]
            refine (of_calls _ _ _ _).mono ?_
            rintro e w2 ⟨rfl, hb⟩
            exact ⟨_, rfl, Box1.of_below hb, rfl⟩
          refine rg_val ((.tuple #[(venc fv), .bool true])) (Box1.refl _ _) rfl (fun _ _ _ _ => wanted_none rfl) ?_ ?_
          · intro a w' hr hs
            have h5 := hs.get 5 rfl (by kernel_rfl) rfl
            have h6 := hs.get 0 rfl (by kernel_rfl) rfl
            simp only at h5 h6
            have hlk := lookup_ok (T := 62) letter_law Try.underlying62 zero_place (hr.at mp2.out.1 (HX.out mp2.out.1)) (lt ls xi)
            rw [HFI.out] at hlk
            simp only at hlk
            go_simp
          refine rg_val ((.tuple #[(venc fv), .bool true])) (Box1.refl _ _) rfl (fun _ _ _ _ => wanted_none rfl) ?_ ?_
          · intro a w' hr hs
            have h5 := hs.get 0 rfl (by kernel_rfl) rfl
            simp only at h5
            go_simp
          refine rg_val ((venc fv)) (Box1.refl _ _) rfl (fun _ _ _ _ => wanted_none rfl) ?_ ?_
          · intro a w' hr hs
            have h5 := hs.get 0 rfl (by kernel_rfl) rfl
            simp only at h5
            go_simp
          refine rg_val (.bool true) (Box1.refl _ _) rfl (fun _ _ _ _ => wanted_none rfl) ?_ ?_
          · intro a w' hr hs
            have h5 := hs.get 1 rfl (by kernel_rfl) rfl
            simp only at h5
            go_simp
          refine rg_run (fun v w => ∃ g, v = .pointer (some ⟨g, 0, none⟩) ∧ W2.drew.heap.size ≤ g ∧ ∃ c, w.heap[g]? = some (.cells #[c] 67 (0, 0))) (fun v w w' hr h => by obtain ⟨g, h1, h2, c, h3⟩ := h; exact ⟨g, h1, h2, hr.box g c h2 h3⟩) rfl (fun _ _ _ _ => wanted_none rfl) ?_ ?_
          · intro a w' hr hs
            refine ⟨.pointer (some ⟨w'.heap.size, 0, none⟩), w'.alloc (.cells #[.int .i64 0] 67), ?_, ⟨(Mv.refl _ _).alloc _, fun g c _ h => ⟨c, at_alloc h _⟩⟩, ⟨_, rfl, hr.mv.size, _, at_new _ _ rfl⟩⟩
            have hz := zero_place
            unfold venc at hz
            go_simp
          refine rg_skip (fun _ => True) (fun _ _ _ _ => trivial) rfl (fun _ _ _ _ => wanted_none rfl) ?_ ?_
          · intro a w' hr hs
            obtain ⟨g, h1, h2, c, h3⟩ := hs.get 0 rfl (by kernel_rfl) rfl
            have h4 := hs.get 2 rfl (by kernel_rfl) rfl
            simp only at h1 h4
            have hc := cell_at h3 0
            have hf := free_at h3 0
            have hu := Try.underlying67
            refine ⟨w'.setCell ⟨g, 0, none⟩ (.int .i64 fv), ?_, ⟨(Mv.refl _ _).setCell (.inl h2) _, fun g' c' hg' h' => ?_⟩, trivial⟩
            · unfold venc at h4
              go_simp
            · by_cases hgg : g' = g
              · subst hgg; exact ⟨_, by simpa using set_at h' 0 _⟩
              · exact ⟨c', at_set h' hgg _⟩
          intro vs w3 hr hE
          rw [show List.range 12 = [0, 1, 2, 3, 4, 5, 6, 7, 8, 9, 10, 11] from rfl]
          simp only [List.mem_cons, List.not_mem_nil, or_false, forall_eq_or_imp, forall_eq] at hE
          obtain ⟨_, ⟨gx, hg1, hg2, _⟩, g9, g8, g7, g6, g5, g4, g3, g2, g1, g0⟩ := hE
          simp only [putL, slotOf, List.getElem?_toArray, List.getElem?_cons_succ, List.getElem?_cons_zero, Option.bind_some, Act.put, List.setIfInBounds_toArray, List.set_cons_succ, List.set_cons_zero, hg1, g9, g8, g7, g6, g5, g4, g3, g2, g1, g0]
          refine tail_val (i := 12) (r := []) (w' := w3) (.bool true) rfl (wanted_none rfl) (by go_simp) (tail_end ?_)
          clear hg1 g9 g8 g7 g6 g5 g4 g3 g2 g1 g0
          simp only [Act.put, List.setIfInBounds_toArray, List.set_cons_succ, List.set_cons_zero]
          have hXX : ∀ {k : Nat} {o : Obj}, Mine k o O W2 → Mine k o O w3 := fun h => ⟨hr.at h.1 (HX.out h.1), h.2⟩
          have mv3 := Aside0.mk (mv2.out.drew.trans (hr.mv.mono (fun k h1 h2 => absurd h1 (Nat.not_lt.2 h2))))
          have mvW3 := Aside0.mk (mvW.out.drew.trans (hr.mv.mono (fun k h1 h2 => absurd h1 (Nat.not_lt.2 h2))))
          have fr3 := Aside0.mk (hXX fr2.out)
          have mp3 := Aside0.mk (hXX mp2.out)
          have sb3 := Aside0.mk (hXX sb2.out)
          have bg3 := Aside0.mk (hXX bg2.out)
          have row3 := Aside0.mk (hXX row2.out)
          have bl3 := Aside0.mk (hXX bl2.out)
          have bk3 := Aside0.mk (hXX bk2.out)
          have HL3 := Aside0.mk ((HL2.out.below (hr.mv.below HN.out (fun k h => Nat.le_trans HN.out h))).below ((Below.refl n₀ w3).drew))
          have HN3 := Aside0.mk (Nat.le_trans HN.out hr.mv.size)
          clear hXX hr
          gi_wp2
          have hs : each ls f (pre ++ [(xi : Int)]) ms = (true, L, m) := by rw [HST.out]; simp [estep, HFI.out, HXF.out]
          exact ⟨mvW3.out.mono (fun k _ h => by simpa using h), EI.of hs fr3.out mp3.out sb3.out bg3.out row3.out bl3.out bk3.out mv3.out OWN.out⟩
    · clear c5 cl ck
      gi_wp2
      obtain ⟨q1, q2, q3, q4⟩ := HLT.out
      obtain ⟨W2, hW2⟩ : ∃ W2 : World, W2 = W.setCell ⟨W0.heap.size + 1 + 1 + 1, 0, none⟩ (.bool true) := ⟨_, rfl⟩
      rw [← hW2]
      have fr2 := Aside0.mk (show Mine _ _ O W2 by rw [hW2]; exact FR.out.set (by simp <;> omega) _)
      have mp2 := Aside0.mk (show Mine _ _ O W2 by rw [hW2]; exact MP.out.set (by simp <;> omega) _)
      have sb2 := Aside0.mk (show Mine _ _ O W2 by rw [hW2]; exact SB.out.set (by simp <;> omega) _)
      have bg2 := Aside0.mk (show Mine _ (.cells #[.bool true] 4 (0, 0)) O W2 by rw [hW2]; exact BG.out.one _)
      have row2 := Aside0.mk (show Mine _ _ O W2 by rw [hW2]; exact ROW.out.set (by simp <;> omega) _)
      have bl2 := Aside0.mk (show Mine _ _ O W2 by rw [hW2]; exact BL.out.set (by simp <;> omega) _)
      have bk2 := Aside0.mk (show Mine _ _ O W2 by rw [hW2]; exact BK.out.set (by simp <;> omega) _)
      have mv2 := Aside0.mk (show Mv _ W0 W2 by rw [hW2]; exact MV.out.setCell (.inr (by simp <;> omega)) _)
      have HL2 := Aside0.mk (show RdL n₀ W2.drew (some ad) N ls from HL.out.below (by rw [hW2]; exact ((Below.refl n₀ W).setCell (p := ⟨W0.heap.size + 1 + 1 + 1, 0, none⟩) (by simp <;> omega) _).drew))
      have HN := Aside0.mk (show n₀ ≤ W2.drew.heap.size by have := MV.out.size; rw [hW2]; simp [World.setCell]; omega)
      have mvW := Aside0.mk (show Mv (fun k => ¬ O k) W W2 by rw [hW2]; exact (Mv.refl _ _).setCell (.inl BG.out.2) _)
      clear hW2 FR MP SB BG ROW BL BK MV c4 c6 f6 hx0 hx1 hx2
      clear q1 q2 q3 q4
      have hX : ∀ {k : Nat} {o : Obj}, W2.heap[k]? = some o → k < W2.drew.heap.size := fun h => lt_of_at h
      have HX := Aside0.mk @hX
      clear hX
      rcases hfi : findIdx keq (lt ls xi) L 0 with _ | ⟨fi, fv⟩
      · have HFI := Aside0.mk hfi
        clear hfi
        refine rg_regionIn (N := 48) 12 (Box1 67 W2.drew.heap.size) (by kernel_rfl) (by kernel_rfl) (by kernel_rfl) (fun _ _ h => h) rfl (Box1.refl _ _) (Box1.trans) ?_
        rw [show List.range 12 = [0, 1, 2, 3, 4, 5, 6, 7, 8, 9, 10, 11] from rfl]
        refine rg_val (.map (some (W0.heap.size + 1))) (Box1.refl _ _) rfl (fun _ _ _ _ => wanted_none rfl) ?_ ?_
        · intro a w' hr hs
          have h5 := hs.out 5 (by kernel_rfl)
          have hc := cell_at (hr.at sb2.out.1 (HX.out sb2.out.1)) 0
          go_simp
        refine rg_val (.slice (some ad) N c) (Box1.refl _ _) rfl (fun _ _ _ _ => wanted_none rfl) ?_ ?_
        · intro a w' hr hs
          have h5 := hs.out 1 (by kernel_rfl)
          have hc := cell_at (hr.at bl2.out.1 (HX.out bl2.out.1)) 0
          go_simp
        refine rg_val (.int .i64 xi) (Box1.refl _ _) rfl (fun _ _ _ _ => wanted_none rfl) ?_ ?_
        · intro a w' hr hs
          have h5 := hs.out 7 (by kernel_rfl)
          go_simp
        refine rg_val (.pointer (some (ad.add (xi * 3)))) (Box1.refl _ _) rfl (fun _ _ _ _ => wanted_none rfl) ?_ ?_
        · intro a w' hr hs
          have h5 := hs.get 1 rfl (by kernel_rfl) rfl
          have h6 := hs.get 0 rfl (by kernel_rfl) rfl
          simp only at h5 h6
          go_simp
        refine rg_val (.agg #[.bool (ls xi).1, .string (ls xi).2.1, .int .i64 (ls xi).2.2]) (Box1.refl _ _) rfl (fun _ _ _ _ => wanted_none rfl) ?_ ?_
        · intro a w' hr hs
          have h5 := hs.get 0 rfl (by kernel_rfl) rfl
          simp only at h5
          have hu := Try.underlying37
          obtain ⟨ad', e1, _, x0, x1, x2⟩ := (HL2.out.below (hr.mv.below HN.out (fun k h => Nat.le_trans HN.out h))) xi hxi
          cases e1
          go_simp
        refine rg_call (fun v _ => v = kenc (lt ls xi)) (fun _ _ _ _ h => h) rfl rfl Try.func43 (by kernel_rfl) rfl (fun _ _ _ _ => wanted_none rfl) ?_ ?_
        · intro a w' hr hs
          have h5 := hs.get 0 rfl (by kernel_rfl) rfl
          simp only at h5
          have h6 : (#[Operand.tmp 29] : Array Operand).map a.eval = #[.agg #[.bool (ls xi).1, .string (ls xi).2.1, .int .i64 (ls xi).2.2]] := by simp [Act.eval, h5]
          rw [h6]
          refine (of_calls _ _ _ _).mono ?_
          rintro e w2 ⟨rfl, hb⟩
          exact ⟨_, rfl, Box1.of_below hb, rfl⟩
        refine rg_val ((.tuple #[(venc 0), .bool false])) (Box1.refl _ _) rfl (fun _ _ _ _ => wanted_none rfl) ?_ ?_
        · intro a w' hr hs
          have h5 := hs.get 5 rfl (by kernel_rfl) rfl
          have h6 := hs.get 0 rfl (by kernel_rfl) rfl
          simp only at h5 h6
          have hlk := lookup_ok (T := 62) letter_law Try.underlying62 zero_place (hr.at mp2.out.1 (HX.out mp2.out.1)) (lt ls xi)
          rw [HFI.out] at hlk
          simp only at hlk
          go_simp
        refine rg_val ((.tuple #[(venc 0), .bool false])) (Box1.refl _ _) rfl (fun _ _ _ _ => wanted_none rfl) ?_ ?_
        · intro a w' hr hs
          have h5 := hs.get 0 rfl (by kernel_rfl) rfl
          simp only at h5
          go_simp
        refine rg_val ((venc 0)) (Box1.refl _ _) rfl (fun _ _ _ _ => wanted_none rfl) ?_ ?_
        · intro a w' hr hs
          have h5 := hs.get 0 rfl (by kernel_rfl) rfl
          simp only at h5
          go_simp
        refine rg_val (.bool false) (Box1.refl _ _) rfl (fun _ _ _ _ => wanted_none rfl) ?_ ?_
        · intro a w' hr hs
          have h5 := hs.get 1 rfl (by kernel_rfl) rfl
          simp only at h5
          go_simp
        refine rg_run (fun v w => ∃ g, v = .pointer (some ⟨g, 0, none⟩) ∧ W2.drew.heap.size ≤ g ∧ ∃ c, w.heap[g]? = some (.cells #[c] 67 (0, 0))) (fun v w w' hr h => by obtain ⟨g, h1, h2, c, h3⟩ := h; exact ⟨g, h1, h2, hr.box g c h2 h3⟩) rfl (fun _ _ _ _ => wanted_none rfl) ?_ ?_
        · intro a w' hr hs
          refine ⟨.pointer (some ⟨w'.heap.size, 0, none⟩), w'.alloc (.cells #[.int .i64 0] 67), ?_, ⟨(Mv.refl _ _).alloc _, fun g c _ h => ⟨c, at_alloc h _⟩⟩, ⟨_, rfl, hr.mv.size, _, at_new _ _ rfl⟩⟩
          have hz := zero_place
          unfold venc at hz
          go_simp
        refine rg_skip (fun _ => True) (fun _ _ _ _ => trivial) rfl (fun _ _ _ _ => wanted_none rfl) ?_ ?_
        · intro a w' hr hs
          obtain ⟨g, h1, h2, c, h3⟩ := hs.get 0 rfl (by kernel_rfl) rfl
          have h4 := hs.get 2 rfl (by kernel_rfl) rfl
          simp only at h1 h4
          have hc := cell_at h3 0
          have hf := free_at h3 0
          have hu := Try.underlying67
          refine ⟨w'.setCell ⟨g, 0, none⟩ (.int .i64 0), ?_, ⟨(Mv.refl _ _).setCell (.inl h2) _, fun g' c' hg' h' => ?_⟩, trivial⟩
          · unfold venc at h4
            go_simp
          · by_cases hgg : g' = g
            · subst hgg; exact ⟨_, by simpa using set_at h' 0 _⟩
            · exact ⟨c', at_set h' hgg _⟩
        intro vs w3 hr hE
        rw [show List.range 12 = [0, 1, 2, 3, 4, 5, 6, 7, 8, 9, 10, 11] from rfl]
        simp only [List.mem_cons, List.not_mem_nil, or_false, forall_eq_or_imp, forall_eq] at hE
        obtain ⟨_, ⟨gx, hg1, hg2, _⟩, g9, g8, g7, g6, g5, g4, g3, g2, g1, g0⟩ := hE
        simp only [putL, slotOf, List.getElem?_toArray, List.getElem?_cons_succ, List.getElem?_cons_zero, Option.bind_some, Act.put, List.setIfInBounds_toArray, List.set_cons_succ, List.set_cons_zero, hg1, g9, g8, g7, g6, g5, g4, g3, g2, g1, g0]
        refine tail_val (i := 12) (r := []) (w' := w3) (.bool false) rfl (wanted_none rfl) (by go_simp) (tail_end ?_)
        clear hg1 g9 g8 g7 g6 g5 g4 g3 g2 g1 g0
        simp only [Act.put, List.setIfInBounds_toArray, List.set_cons_succ, List.set_cons_zero]
        have hXX : ∀ {k : Nat} {o : Obj}, Mine k o O W2 → Mine k o O w3 := fun h => ⟨hr.at h.1 (HX.out h.1), h.2⟩
        have mv3 := Aside0.mk (mv2.out.drew.trans (hr.mv.mono (fun k h1 h2 => absurd h1 (Nat.not_lt.2 h2))))
        have mvW3 := Aside0.mk (mvW.out.drew.trans (hr.mv.mono (fun k h1 h2 => absurd h1 (Nat.not_lt.2 h2))))
        have fr3 := Aside0.mk (hXX fr2.out)
        have mp3 := Aside0.mk (hXX mp2.out)
        have sb3 := Aside0.mk (hXX sb2.out)
        have bg3 := Aside0.mk (hXX bg2.out)
        have row3 := Aside0.mk (hXX row2.out)
        have bl3 := Aside0.mk (hXX bl2.out)
        have bk3 := Aside0.mk (hXX bk2.out)
        have HL3 := Aside0.mk ((HL2.out.below (hr.mv.below HN.out (fun k h => Nat.le_trans HN.out h))).below ((Below.refl n₀ w3).drew))
        have HN3 := Aside0.mk (Nat.le_trans HN.out hr.mv.size)
        clear hXX hr
        gi_wp2
        refine rg_regionIn (N := 48) 8 (Box1 67 w3.drew.heap.size) (by kernel_rfl) (by kernel_rfl) (by kernel_rfl) (fun _ _ h => h) rfl (Box1.refl _ _) (Box1.trans) ?_
        rw [show List.range 8 = [0, 1, 2, 3, 4, 5, 6, 7] from rfl]
        refine rg_val (.map (some (W0.heap.size + 1))) (Box1.refl _ _) rfl (fun _ _ _ _ => wanted_none rfl) ?_ ?_
        · intro a w' hr hs
          have h5 := hs.out 5 (by kernel_rfl)
          have hc := cell_at (hr.at sb3.out.1 (lt_of_at sb3.out.1)) 0
          go_simp
        refine rg_val (.slice (some ad) N c) (Box1.refl _ _) rfl (fun _ _ _ _ => wanted_none rfl) ?_ ?_
        · intro a w' hr hs
          have h5 := hs.out 1 (by kernel_rfl)
          have hc := cell_at (hr.at bl3.out.1 (lt_of_at bl3.out.1)) 0
          go_simp
        refine rg_val (.int .i64 xi) (Box1.refl _ _) rfl (fun _ _ _ _ => wanted_none rfl) ?_ ?_
        · intro a w' hr hs
          have h5 := hs.out 7 (by kernel_rfl)
          go_simp
        refine rg_val (.pointer (some (ad.add (xi * 3)))) (Box1.refl _ _) rfl (fun _ _ _ _ => wanted_none rfl) ?_ ?_
        · intro a w' hr hs
          have h5 := hs.get 1 rfl (by kernel_rfl) rfl
          have h6 := hs.get 0 rfl (by kernel_rfl) rfl
          simp only at h5 h6
          go_simp
        refine rg_val (.agg #[.bool (ls xi).1, .string (ls xi).2.1, .int .i64 (ls xi).2.2]) (Box1.refl _ _) rfl (fun _ _ _ _ => wanted_none rfl) ?_ ?_
        · intro a w' hr hs
          have h5 := hs.get 0 rfl (by kernel_rfl) rfl
          simp only at h5
          have hu := Try.underlying37
          obtain ⟨ad', e1, _, x0, x1, x2⟩ := (HL3.out.below (hr.mv.below HN3.out (fun k h => Nat.le_trans HN3.out h))) xi hxi
          cases e1
          go_simp
        refine rg_call (fun v _ => v = kenc (lt ls xi)) (fun _ _ _ _ h => h) rfl rfl Try.func43 (by kernel_rfl) rfl (fun _ _ _ _ => wanted_none rfl) ?_ ?_
        · intro a w' hr hs
          have h5 := hs.get 0 rfl (by kernel_rfl) rfl
          simp only at h5
          have h6 : (#[Operand.tmp 40] : Array Operand).map a.eval = #[.agg #[.bool (ls xi).1, .string (ls xi).2.1, .int .i64 (ls xi).2.2]] := by simp [Act.eval, h5]
          rw [h6]
          refine (of_calls _ _ _ _).mono ?_
          rintro e w2 ⟨rfl, hb⟩
          exact ⟨_, rfl, Box1.of_below hb, rfl⟩
        refine rg_val (.int .i64 xi) (Box1.refl _ _) rfl (fun _ _ _ _ => wanted_none rfl) ?_ ?_
        · intro a w' hr hs
          have h5 := hs.out 7 (by kernel_rfl)
          go_simp
        refine rg_val (venc xi) (Box1.refl _ _) rfl (fun _ _ _ _ => wanted_none rfl) ?_ ?_
        · intro a w' hr hs
          have h5 := hs.get 0 rfl (by kernel_rfl) rfl
          simp only at h5
          have hu := Try.underlying67
          unfold venc
          go_simp
        intro vs w4 hr hE
        rw [show List.range 8 = [0, 1, 2, 3, 4, 5, 6, 7] from rfl]
        simp only [List.mem_cons, List.not_mem_nil, or_false, forall_eq_or_imp, forall_eq] at hE
        obtain ⟨g7, g6, g5, g4, g3, g2, g1, g0⟩ := hE
        simp only [putL, slotOf, List.getElem?_toArray, List.getElem?_cons_succ, List.getElem?_cons_zero, Option.bind_some, Act.put, List.setIfInBounds_toArray, List.set_cons_succ, List.set_cons_zero, g7, g6, g5, g4, g3, g2, g1, g0]
        clear g7 g6 g5 g4 g3 g2 g1 g0
        have hXX : ∀ {k : Nat} {o : Obj}, Mine k o O w3 → Mine k o O w4 := fun h => ⟨hr.at h.1 (lt_of_at h.1), h.2⟩
        have hup := update_run (P := Try.prog) (T := 62) letter_law Try.underlying62 (hXX mp3.out).1 (lt ls xi) (xi : Int)
        obtain ⟨w5, hw5⟩ : ∃ w5 : World, w5 = w4.putObj (W0.heap.size + 1) (MapObj kenc venc (upd keq (lt ls xi) (xi : Int) L.length L).1 (upd keq (lt ls xi) (xi : Int) L.length L).2) := ⟨_, rfl⟩
        rw [← hw5] at hup
        have hUP := hup
        refine tail_skip (i := 8) (r := []) (w' := w5) rfl (wanted_none rfl) (by go_simp) (tail_end ?_)
        obtain ⟨q1, q2, q3, q4⟩ := HLT.out
        have mv4 := Aside0.mk (show Mv _ W0 w5 by rw [hw5]; exact (mv3.out.drew.trans (hr.mv.mono (fun k h1 h2 => absurd h1 (Nat.not_lt.2 h2)))).putObj (.inr (by omega)) _)
        have mvW4 := Aside0.mk (show Mv (fun k => ¬ O k) W w5 by rw [hw5]; exact (mvW3.out.drew.trans (hr.mv.mono (fun k h1 h2 => absurd h1 (Nat.not_lt.2 h2)))).putObj (.inl mp3.out.2) _)
        have fr4 := Aside0.mk (show Mine _ _ O w5 by rw [hw5]; exact (hXX fr3.out).put (by omega) _)
        have mp4 := Aside0.mk (show Mine _ _ O w5 by rw [hw5]; exact ⟨World.putObj_heap_same (lt_of_at (hXX mp3.out).1), mp3.out.2⟩)
        have sb4 := Aside0.mk (show Mine _ _ O w5 by rw [hw5]; exact (hXX sb3.out).put (by omega) _)
        have bg4 := Aside0.mk (show Mine _ _ O w5 by rw [hw5]; exact (hXX bg3.out).put (by omega) _)
        have row4 := Aside0.mk (show Mine _ _ O w5 by rw [hw5]; exact (hXX row3.out).put (by omega) _)
        have bl4 := Aside0.mk (show Mine _ _ O w5 by rw [hw5]; exact (hXX bl3.out).put (by omega) _)
        have bk4 := Aside0.mk (show Mine _ _ O w5 by rw [hw5]; exact (hXX bk3.out).put (by omega) _)
        clear hXX hr hup hUP hw5 q1 q2 q3 q4
        have hck := cell_at bk4.out.1 0
        have hcm := cell_at row4.out.1 xi
        have hfm := free_at row4.out.1 xi
        have hmx : (m.map Value.bool).toArray[xi]? = some (.bool (m.getD xi false)) := by simp [List.getElem?_map, HLEN.out, hxi]
        rw [hmx] at hcm
        clear hmx
        simp only [List.getElem?_toArray, List.getElem?_cons_zero] at hck
        simp only [Act.put, List.setIfInBounds_toArray, List.set_cons_succ, List.set_cons_zero]
        gi_wp2
        obtain ⟨q1, q2, q3, q4⟩ := HLT.out
        have hs : each ls f (pre ++ [(xi : Int)]) ms = (true, L ++ [(lt ls xi, (xi : Int), L.length)], m.set xi true) := by rw [HST.out]; simp [estep, HFI.out, Bool.true_or]
        have hupd : upd keq (lt ls xi) (xi : Int) L.length L = (L ++ [(lt ls xi, (xi : Int), L.length)], L.length + 1) := by simp [upd, HFI.out]
        have mp5 : Mine (W0.heap.size + 1) (MapObj kenc venc (L ++ [(lt ls xi, (xi : Int), L.length)]) (L ++ [(lt ls xi, (xi : Int), L.length)]).length) O w5 := by
          have := mp4.out
          rw [hupd] at this
          simpa using this
        refine ⟨(mvW4.out.setCell (.inl row4.out.2) _).mono (fun k _ h => by simpa using h), EI.of hs (fr4.out.set (by simp <;> omega) _) (mp5.set (by simp <;> omega) _) (sb4.out.set (by simp <;> omega) _) (bg4.out.set (by simp <;> omega) _) ⟨?_, row4.out.2⟩ (bl4.out.set (by simp <;> omega) _) (bk4.out.set (by simp <;> omega) _) (mv4.out.setCell (.inl rfl) _) OWN.out⟩
        have := set_at row4.out.1 xi (.bool true)
        rw [this]
        congr 2
        simp [List.map_set]
      · have HFI := Aside0.mk hfi
        clear hfi
        refine rg_regionIn (N := 48) 12 (Box1 67 W2.drew.heap.size) (by kernel_rfl) (by kernel_rfl) (by kernel_rfl) (fun _ _ h => h) rfl (Box1.refl _ _) (Box1.trans) ?_
        rw [show List.range 12 = [0, 1, 2, 3, 4, 5, 6, 7, 8, 9, 10, 11] from rfl]
        refine rg_val (.map (some (W0.heap.size + 1))) (Box1.refl _ _) rfl (fun _ _ _ _ => wanted_none rfl) ?_ ?_
        · intro a w' hr hs
          have h5 := hs.out 5 (by kernel_rfl)
          have hc := cell_at (hr.at sb2.out.1 (HX.out sb2.out.1)) 0
          go_simp
        refine rg_val (.slice (some ad) N c) (Box1.refl _ _) rfl (fun _ _ _ _ => wanted_none rfl) ?_ ?_
        · intro a w' hr hs
          have h5 := hs.out 1 (by kernel_rfl)
          have hc := cell_at (hr.at bl2.out.1 (HX.out bl2.out.1)) 0
          go_simp
        refine rg_val (.int .i64 xi) (Box1.refl _ _) rfl (fun _ _ _ _ => wanted_none rfl) ?_ ?_
        · intro a w' hr hs
          have h5 := hs.out 7 (by kernel_rfl)
          go_simp
        refine rg_val (.pointer (some (ad.add (xi * 3)))) (Box1.refl _ _) rfl (fun _ _ _ _ => wanted_none rfl) ?_ ?_
        · intro a w' hr hs
          have h5 := hs.get 1 rfl (by kernel_rfl) rfl
          have h6 := hs.get 0 rfl (by kernel_rfl) rfl
          simp only at h5 h6
          go_simp
        refine rg_val (.agg #[.bool (ls xi).1, .string (ls xi).2.1, .int .i64 (ls xi).2.2]) (Box1.refl _ _) rfl (fun _ _ _ _ => wanted_none rfl) ?_ ?_
        · intro a w' hr hs
          have h5 := hs.get 0 rfl (by kernel_rfl) rfl
          simp only at h5
          have hu := Try.underlying37
          obtain ⟨ad', e1, _, x0, x1, x2⟩ := (HL2.out.below (hr.mv.below HN.out (fun k h => Nat.le_trans HN.out h))) xi hxi
          cases e1
          go_simp
        refine rg_call (fun v _ => v = kenc (lt ls xi)) (fun _ _ _ _ h => h) rfl rfl Try.func43 (by kernel_rfl) rfl (fun _ _ _ _ => wanted_none rfl) ?_ ?_
        · intro a w' hr hs
          have h5 := hs.get 0 rfl (by kernel_rfl) rfl
          simp only at h5
          have h6 : (#[Operand.tmp 29] : Array Operand).map a.eval = #[.agg #[.bool (ls xi).1, .string (ls xi).2.1, .int .i64 (ls xi).2.2]] := by simp [Act.eval, h5]
          rw [h6]
          refine (of_calls _ _ _ _).mono ?_
          rintro e w2 ⟨rfl, hb⟩
          exact ⟨_, rfl, Box1.of_below hb, rfl⟩
        refine rg_val ((.tuple #[(venc fv), .bool true])) (Box1.refl _ _) rfl (fun _ _ _ _ => wanted_none rfl) ?_ ?_
        · intro a w' hr hs
          have h5 := hs.get 5 rfl (by kernel_rfl) rfl
          have h6 := hs.get 0 rfl (by kernel_rfl) rfl
          simp only at h5 h6
          have hlk := lookup_ok (T := 62) letter_law Try.underlying62 zero_place (hr.at mp2.out.1 (HX.out mp2.out.1)) (lt ls xi)
          rw [HFI.out] at hlk
          simp only at hlk
          go_simp
        refine rg_val ((.tuple #[(venc fv), .bool true])) (Box1.refl _ _) rfl (fun _ _ _ _ => wanted_none rfl) ?_ ?_
        · intro a w' hr hs
          have h5 := hs.get 0 rfl (by kernel_rfl) rfl
          simp only at h5
          go_simp
        refine rg_val ((venc fv)) (Box1.refl _ _) rfl (fun _ _ _ _ => wanted_none rfl) ?_ ?_
        · intro a w' hr hs
          have h5 := hs.get 0 rfl (by kernel_rfl) rfl
          simp only at h5
          go_simp
        refine rg_val (.bool true) (Box1.refl _ _) rfl (fun _ _ _ _ => wanted_none rfl) ?_ ?_
        · intro a w' hr hs
          have h5 := hs.get 1 rfl (by kernel_rfl) rfl
          simp only at h5
          go_simp
        refine rg_run (fun v w => ∃ g, v = .pointer (some ⟨g, 0, none⟩) ∧ W2.drew.heap.size ≤ g ∧ ∃ c, w.heap[g]? = some (.cells #[c] 67 (0, 0))) (fun v w w' hr h => by obtain ⟨g, h1, h2, c, h3⟩ := h; exact ⟨g, h1, h2, hr.box g c h2 h3⟩) rfl (fun _ _ _ _ => wanted_none rfl) ?_ ?_
        · intro a w' hr hs
          refine ⟨.pointer (some ⟨w'.heap.size, 0, none⟩), w'.alloc (.cells #[.int .i64 0] 67), ?_, ⟨(Mv.refl _ _).alloc _, fun g c _ h => ⟨c, at_alloc h _⟩⟩, ⟨_, rfl, hr.mv.size, _, at_new _ _ rfl⟩⟩
          have hz := zero_place
          unfold venc at hz
          go_simp
        refine rg_skip (fun _ => True) (fun _ _ _ _ => trivial) rfl (fun _ _ _ _ => wanted_none rfl) ?_ ?_
        · intro a w' hr hs
          obtain ⟨g, h1, h2, c, h3⟩ := hs.get 0 rfl (by kernel_rfl) rfl
          have h4 := hs.get 2 rfl (by kernel_rfl) rfl
          simp only at h1 h4
          have hc := cell_at h3 0
          have hf := free_at h3 0
          have hu := Try.underlying67
          refine ⟨w'.setCell ⟨g, 0, none⟩ (.int .i64 fv), ?_, ⟨(Mv.refl _ _).setCell (.inl h2) _, fun g' c' hg' h' => ?_⟩, trivial⟩
          · unfold venc at h4
            go_simp
          · by_cases hgg : g' = g
            · subst hgg; exact ⟨_, by simpa using set_at h' 0 _⟩
            · exact ⟨c', at_set h' hgg _⟩
        intro vs w3 hr hE
        rw [show List.range 12 = [0, 1, 2, 3, 4, 5, 6, 7, 8, 9, 10, 11] from rfl]
        simp only [List.mem_cons, List.not_mem_nil, or_false, forall_eq_or_imp, forall_eq] at hE
        obtain ⟨_, ⟨gx, hg1, hg2, _⟩, g9, g8, g7, g6, g5, g4, g3, g2, g1, g0⟩ := hE
        simp only [putL, slotOf, List.getElem?_toArray, List.getElem?_cons_succ, List.getElem?_cons_zero, Option.bind_some, Act.put, List.setIfInBounds_toArray, List.set_cons_succ, List.set_cons_zero, hg1, g9, g8, g7, g6, g5, g4, g3, g2, g1, g0]
        refine tail_val (i := 12) (r := []) (w' := w3) (.bool true) rfl (wanted_none rfl) (by go_simp) (tail_end ?_)
        clear hg1 g9 g8 g7 g6 g5 g4 g3 g2 g1 g0
        simp only [Act.put, List.setIfInBounds_toArray, List.set_cons_succ, List.set_cons_zero]
        have hXX : ∀ {k : Nat} {o : Obj}, Mine k o O W2 → Mine k o O w3 := fun h => ⟨hr.at h.1 (HX.out h.1), h.2⟩
        have mv3 := Aside0.mk (mv2.out.drew.trans (hr.mv.mono (fun k h1 h2 => absurd h1 (Nat.not_lt.2 h2))))
        have mvW3 := Aside0.mk (mvW.out.drew.trans (hr.mv.mono (fun k h1 h2 => absurd h1 (Nat.not_lt.2 h2))))
        have fr3 := Aside0.mk (hXX fr2.out)
        have mp3 := Aside0.mk (hXX mp2.out)
        have sb3 := Aside0.mk (hXX sb2.out)
        have bg3 := Aside0.mk (hXX bg2.out)
        have row3 := Aside0.mk (hXX row2.out)
        have bl3 := Aside0.mk (hXX bl2.out)
        have bk3 := Aside0.mk (hXX bk2.out)
        have HL3 := Aside0.mk ((HL2.out.below (hr.mv.below HN.out (fun k h => Nat.le_trans HN.out h))).below ((Below.refl n₀ w3).drew))
        have HN3 := Aside0.mk (Nat.le_trans HN.out hr.mv.size)
        clear hXX hr
        gi_wp2
        have hs : each ls f (pre ++ [(xi : Int)]) ms = (true, L, m) := by rw [HST.out]; simp [estep, HFI.out, Bool.true_or]
        exact ⟨mvW3.out.mono (fun k _ h => by simpa using h), EI.of hs fr3.out mp3.out sb3.out bg3.out row3.out bl3.out bk3.out mv3.out OWN.out⟩
  case done =>
    intro D xs O W hD hOD hOl hS hI hK
    subst hS
    gi_wp2
    refine ⟨by simp, .inl ⟨_, _, rfl, run_takeDeferred hK, ?_⟩⟩
    exact ⟨_, results_none rfl _ _ _, rfl, hI.mv.putObj (.inr (by omega)) _, at_put hI.row.1 (fun e => hI.row.2 (by rw [e]; exact hOD)) _⟩
end Go.Proofs.YtokfalcmkmelpaaHChain
