/- Laws of this session's own, over any program: worlds that keep blocks ('Mv'); a range over a function whose iterator may own cells ('rf_loop'); a region that draws its order, in a round ('startIn_'). -/
import Derived.RangeFuncCalls
import Derived.RangeFuncLeaves
import Derived.RangeFuncBound
import Derived.WalkKit
import Derived.OwnWalkIn
import Derived.TacticsInMore
import Derived.LoopNIn
import Derived.LoopIn
import Derived.Test.YtimflmgdnfpodaaWLast
import Derived.Test.YtimflmgdnfpodaaWWords
namespace Go.Proofs.YtimflmgdnfpodaaRF
open Go.RowKit Go.Proofs.YtimflmgdnfpodaaW.PrintLast Go.Proofs.YtimflmgdnfpodaaW.PrintWords

/-- W' is W, but for blocks of O and new ones. -/
structure Mv (O : Nat → Prop) (W W' : World) : Prop where
  os : W'.os = W.os
  tape : W'.tape = W.tape
  output : W'.output = W.output
  size : W.heap.size ≤ W'.heap.size
  block : ∀ k, k < W.heap.size → ¬ O k → W'.heap[k]? = W.heap[k]?

theorem Mv.refl (O : Nat → Prop) (W : World) : Mv O W W := ⟨rfl, rfl, rfl, Nat.le_refl _, fun _ _ _ => rfl⟩
theorem Mv.trans {O : Nat → Prop} {A B C : World} (h : Mv O A B) (k : Mv O B C) : Mv O A C :=
  ⟨k.os.trans h.os, k.tape.trans h.tape, k.output.trans h.output, Nat.le_trans h.size k.size, fun i hi ho => (k.block i (Nat.lt_of_lt_of_le hi h.size) ho).trans (h.block i hi ho)⟩
theorem Mv.mono {O O' : Nat → Prop} {A B : World} (h : Mv O A B) (hO : ∀ k, k < A.heap.size → O k → O' k) : Mv O' A B :=
  ⟨h.os, h.tape, h.output, h.size, fun k hk ho => h.block k hk (fun e => ho (hO k hk e))⟩
theorem Mv.of_below {n : Nat} {A B : World} (h : Below n A B) : Mv (fun k => n ≤ k) A B :=
  ⟨h.os, h.tape, h.output, h.size, fun k _ ho => h.block k (by omega)⟩
theorem Mv.of_pure {A B : World} (h : Below A.heap.size A B) (O : Nat → Prop) : Mv O A B :=
  ⟨h.os, h.tape, h.output, h.size, fun k hk _ => h.block k hk⟩
theorem Mv.below {O : Nat → Prop} {n : Nat} {A B : World} (h : Mv O A B) (hn : n ≤ A.heap.size) (hO : ∀ k, O k → n ≤ k) : Below n A B :=
  ⟨h.os, h.tape, h.output, h.size, fun k hk => h.block k (by omega) (fun e => by have := hO k e; omega)⟩
theorem Mv.drew {O : Nat → Prop} {A B : World} (h : Mv O A B) : Mv O A B.drew := ⟨h.os, h.tape, h.output, h.size, h.block⟩
theorem Mv.alloc {O : Nat → Prop} {A B : World} (h : Mv O A B) (o : Obj) : Mv O A (B.alloc o) :=
  ⟨h.os, h.tape, h.output, by have := h.size; simp; omega, fun k hk ho => (Below.heap_alloc B o k (by have := h.size; omega)).trans (h.block k hk ho)⟩
theorem Mv.setCell {O : Nat → Prop} {A B : World} (h : Mv O A B) {p : Addr} (hp : O p.block ∨ A.heap.size ≤ p.block) (u : Value) : Mv O A (B.setCell p u) :=
  ⟨h.os, h.tape, h.output, by have := h.size; simpa [World.setCell] using this, fun k hk ho => (Below.heap_setCell B p u k (fun e => by subst e; rcases hp with hp | hp; exact ho hp; omega)).trans (h.block k hk ho)⟩
theorem Mv.putObj {O : Nat → Prop} {A B : World} (h : Mv O A B) {r : Nat} (hp : O r ∨ A.heap.size ≤ r) (o : Obj) : Mv O A (B.putObj r o) :=
  ⟨h.os, h.tape, h.output, by simpa using h.size, fun k hk ho => (World.putObj_heap_other (fun e => by subst e; rcases hp with hp | hp; exact ho hp; omega)).trans (h.block k hk ho)⟩
theorem Mv.grown {O : Nat → Prop} {A B C : World} {row : Option Nat} (h : Mv O A B) (hg : B.grownBy C row) (hr : ∀ k, row = some k → O k ∨ A.heap.size ≤ k) : Mv O A C :=
  ⟨hg.os.trans h.os, hg.tape.trans h.tape, hg.output.trans h.output, Nat.le_trans h.size hg.size, fun k hk ho => (hg.block k (by have := h.size; omega) (fun e => by rcases hr k e.symm with x | x; exact ho x; omega)).trans (h.block k hk ho)⟩
theorem Mv.at {O : Nat → Prop} {A B : World} (h : Mv O A B) {k : Nat} {o : Obj} (hk : A.heap[k]? = some o) (ho : ¬ O k) : B.heap[k]? = some o :=
  (h.block k (Array.getElem?_eq_some_iff.1 hk).1 ho).trans hk

theorem lt_of_at {W : World} {k : Nat} {o : Obj} (h : W.heap[k]? = some o) : k < W.heap.size := (Array.getElem?_eq_some_iff.1 h).1
theorem at_alloc {W : World} {k : Nat} {o : Obj} (h : W.heap[k]? = some o) (o' : Obj) : (W.alloc o').heap[k]? = some o := (Below.heap_alloc W o' k (lt_of_at h)).trans h
theorem at_new (W : World) (o : Obj) {n : Nat} (hn : n = W.heap.size) : (W.alloc o).heap[n]? = some o := by subst hn; exact World.alloc_heap_new W o
theorem at_set {W : World} {k : Nat} {o : Obj} (h : W.heap[k]? = some o) {p : Addr} (hp : k ≠ p.block) (u : Value) : (W.setCell p u).heap[k]? = some o := (Below.heap_setCell W p u k hp).trans h
theorem at_put {W : World} {k : Nat} {o : Obj} (h : W.heap[k]? = some o) {r : Nat} (hp : k ≠ r) (o' : Obj) : (W.putObj r o').heap[k]? = some o := (World.putObj_heap_other hp).trans h
theorem at_drew {W : World} {k : Nat} {o : Obj} (h : W.heap[k]? = some o) : W.drew.heap[k]? = some o := h
theorem cell_at {W : World} {b : Nat} {cs : Array Value} {t : TypeId} (h : W.heap[b]? = some (.cells cs t (0, 0))) (i : Nat) : W.cell? ⟨b, i, none⟩ = cs[i]? := by simp [World.cell?, h]
theorem free_at {W : World} {b : Nat} {cs : Array Value} {t : TypeId} (h : W.heap[b]? = some (.cells cs t (0, 0))) (i : Nat) : W.frozen? ⟨b, i, none⟩ = false := by simp [World.frozen?, h]
theorem set_at {W : World} {b : Nat} {cs : Array Value} {t : TypeId} (h : W.heap[b]? = some (.cells cs t (0, 0))) (i : Nat) (v : Value) : (W.setCell ⟨b, i, none⟩ v).heap[b]? = some (.cells (cs.setIfInBounds i v) t (0, 0)) := by
  have hb := lt_of_at h
  simp only [World.setCell, Array.getElem?_modify, if_true, h, Option.map_some]
  rfl

theorem cell_alloc_lt (w : World) (o : Obj) (b i : Nat) (h : b < w.heap.size) : (w.alloc o).cell? ⟨b, i, none⟩ = w.cell? ⟨b, i, none⟩ := World.cell?_of_block (w := w) (Below.heap_alloc w o b h)
theorem frozen_alloc_lt (w : World) (o : Obj) (b i : Nat) (h : b < w.heap.size) : (w.alloc o).frozen? ⟨b, i, none⟩ = w.frozen? ⟨b, i, none⟩ := World.frozen?_of_block (w := w) (Below.heap_alloc w o b h)

/-- J does not mind what the other party does: it may turn blocks of O, and lay new ones, which it may take into O. -/
def Stable {β : Type} (J : β → (Nat → Prop) → World → Prop) : Prop :=
  ∀ s O O' W W', J s O W → Mv O W W' → (∀ k, O k → O' k) → (∀ k, O' k → O k ∨ W.heap.size ≤ k) → J s O' W'

theorem Stable.and {β : Type} {J K : β → (Nat → Prop) → World → Prop} (h : Stable J) (k : Stable K) : Stable (fun s O W => J s O W ∧ K s O W) :=
  fun s O O' W W' hs hm h1 h2 => ⟨h s O O' W W' hs.1 hm h1 h2, k s O O' W W' hs.2 hm h1 h2⟩
theorem Stable.pure {β : Type} (p : β → Prop) : Stable (fun s (_ : Nat → Prop) (_ : World) => p s) := fun _ _ _ _ _ hs _ _ _ => hs
theorem Stable.ex {β γ : Type} {J : γ → β → (Nat → Prop) → World → Prop} (h : ∀ c, Stable (J c)) : Stable (fun s O W => ∃ c, J c s O W) :=
  fun s O O' W W' ⟨c, hs⟩ hm h1 h2 => ⟨c, h c s O O' W W' hs hm h1 h2⟩
/-- A block of one's own. -/
structure Mine (b : Nat) (o : Obj) (O : Nat → Prop) (W : World) : Prop where
  lies : W.heap[b]? = some o
  mine : ¬ O b
theorem Mine.set {b : Nat} {o : Obj} {O : Nat → Prop} {W : World} (h : Mine b o O W) {p : Addr} (hp : b ≠ p.block) (u : Value) : Mine b o O (W.setCell p u) := ⟨at_set h.1 hp u, h.2⟩
theorem Mine.put {b : Nat} {o : Obj} {O : Nat → Prop} {W : World} (h : Mine b o O W) {r : Nat} (hp : b ≠ r) (u : Obj) : Mine b o O (W.putObj r u) := ⟨at_put h.1 hp u, h.2⟩
theorem Mine.one {b : Nat} {v : Value} {T : Nat} {O : Nat → Prop} {W : World} (h : Mine b (.cells #[v] T (0, 0)) O W) (u : Value) : Mine b (.cells #[u] T (0, 0)) O (W.setCell ⟨b, 0, none⟩ u) := ⟨by simpa using set_at h.1 0 u, h.2⟩
theorem Mine.stable {β : Type} (b : β → Nat) (o : β → Obj) : Stable (fun s O W => Mine (b s) (o s) O W) :=
  fun _ _ _ _ _ hs hm _ h2 => ⟨hm.at hs.1 hs.2, fun e => (h2 _ e).elim hs.2 (fun x => by have := lt_of_at hs.1; omega)⟩
theorem Mine.move {b : Nat} {o : Obj} {O Z : Nat → Prop} {W W' : World} (h : Mine b o O W) (hm : Mv Z W W') (hz : ¬ Z b) : Mine b o O W' := ⟨hm.at h.1 hz, h.2⟩
/-- What lay when the call began. -/
theorem stable_below {β : Type} {n : Nat} {w : World} (hn : n ≤ w.heap.size) : Stable (fun (_ : β) O W => Below n w W ∧ ∀ k, O k → n ≤ k) :=
  fun _ _ _ _ _ hs hm _ h2 => ⟨hs.1.trans (hm.below (Nat.le_trans hn hs.1.size) hs.2), fun k e => (h2 k e).elim (hs.2 k) (fun x => by have := hs.1.size; omega)⟩

/-! ### Rounds, and the statement -/
section
variable {F : Fence} {n : Nat} {P : Program}

theorem callsIn_wideR {r : Option Nat} {f : FuncId} {args : Array Value} {w : World} {R : Ending → World → Prop} (h : Calls P f args w R) : CallsIn { Fence.wide with round := r } n P f args w R :=
  (callsIn_wide (n := n)).2 h

/-- How a round may end: it goes on; or it leaves by a jump. -/
def rpost {α : Type} (O : Nat → Prop) (I : List α → (Nat → Prop) → World → Prop) (Ix : Code → List α → (Nat → Prop) → World → Prop) (xs : List α) (W : World) : Exit → Act → World → Prop
  | .normal, _, W' => Mv (fun k => ¬ O k) W W' ∧ I xs O W'
  | .ret, _, W' => Mv (fun k => ¬ O k) W W' ∧ Ix .ret xs O W'
  | .exit id, _, W' => Mv (fun k => ¬ O k) W W' ∧ Ix (.exit id) xs O W'
  | .goto t, _, W' => Mv (fun k => ¬ O k) W W' ∧ Ix (.goto t) xs O W'
  | .panic _, _, _ => False
  | .outgrown, _, _ => False

/-- What an iterator is: whatever the two parties' words J (a round went on), Jx (it left): called with yield it makes rounds, in an order that Pre allows; it ends with all (S), or behind a round that left. O₀: its own blocks; Rd: blocks that it reads and a round must leave. -/
def Iter {α : Type} (F : Fence) (n : Nat) (P : Program) (gf : Nat) (lb : Array Value) (encs : α → Array Value) (Pre S : List α → Prop) (O₀ Rd : Nat → Prop) (w : World) : Prop :=
  ∀ (l : Nat) (J Jx : List α → (Nat → Prop) → World → Prop) (O : Nat → Prop) (W : World), Stable J → Stable Jx →
    (∀ pre x O W, J pre O W → Pre (pre ++ [x]) → (∀ k, O k → k < W.heap.size) → YieldAt F (n - 1) P l (encs x) W fun e W' =>
      (e = .returned (.bool true) ∧ J (pre ++ [x]) O W' ∧ Mv (fun k => ¬ O k ∧ ¬ Rd k) W W') ∨ (e = .returned (.bool false) ∧ Jx (pre ++ [x]) O W' ∧ Mv (fun k => ¬ O k ∧ ¬ Rd k) W W')) →
    Mv (fun _ => False) w W → (∀ k, O₀ k → O k) → (∀ k, O k → k < W.heap.size) → J [] O W →
    CallsIn F n P gf (#[.func (.yield l) #[] #[]] ++ lb) W fun e W' => (∃ v, e = .returned v) ∧
      ((∃ xs O, S xs ∧ J xs O W' ∧ ∀ k, O k → k < W'.heap.size) ∨ (∃ pre O, Jx pre O W' ∧ ∀ k, O k → k < W'.heap.size))

theorem rf_loop {α : Type} {g : Operand} {ps : Array Tmp} {assign body : Code} {Q : Exit → Act → World → Prop} {a : Act} {w : World}
    (hro : F.round = none) (h1 : 1 ≤ n) (gf : Nat) (lb : Array Value) (hg : a.eval g = .func (.func gf) #[] lb) (hFg : F.fn gf) (eg : ∀ args w, (callFunc gf args).run P w = .ok (.enter gf args) w)
    (encs : α → Array Value) (hps : ∀ x, (encs x).size = ps.size) {Pre S : List α → Prop} (O₀ Rd : Nat → Prop) (hO₀ : ∀ k, O₀ k → k < w.heap.size) (hRd : ∀ k, Rd k → k < w.heap.size)
    (hiter : Iter F (n - 1) P gf lb encs Pre S O₀ Rd w)
    (I : List α → (Nat → Prop) → World → Prop) (Ix : Code → List α → (Nat → Prop) → World → Prop) (hI : Stable I) (hIx : ∀ c, Stable (Ix c))
    (h0 : ∀ O, (∀ k, O k → O₀ k ∨ w.heap.size ≤ k) → ∀ W, Mv (fun _ => False) w W → I [] O W) (a₁ : α → Act)
    (hassign : ∀ (l : Nat) (x : α) (W : World) (K : Act → World → Prop), K (a₁ x) W →
      assign.wpIn (F.inRound l) (n - 1 - 1) P (Exit.then K (fun _ _ _ => False)) { tmps := (ps.zip (encs x)).foldl (fun t (p, v) => t.setIfInBounds p v) a.tmps, defers := [] } W)
    (hbody : ∀ (l : Nat) (pre : List α) (x : α) (O : Nat → Prop) (W : World), I pre O W → Pre (pre ++ [x]) → (∀ k, O k → k < W.heap.size) → O l → (∃ r, W.heap[l]? = some (.loop r)) → (∀ k, O₀ k → O k) → w.heap.size ≤ W.heap.size →
      body.wpIn (F.inRound l) (n - 1 - 1) P (rpost (fun k => O k ∨ Rd k) (fun s _ W => I s O W) (fun c s _ W => Ix c s O W) (pre ++ [x]) W) (a₁ x) W)
    (hdone : ∀ (D : Nat) (xs : List α) (O : Nat → Prop) (W : World), w.heap.size ≤ D → O D → (∀ k, O k → k < W.heap.size) → S xs → I xs O W → W.heap[D]? = some (.deferred (some [])) → Q .normal { a with defers := { target := .collected D, args := #[] } :: a.defers } W)
    (hstop : ∀ (D : Nat) (c : Code) (pre : List α) (O : Nat → Prop) (W : World), w.heap.size ≤ D → O D → (∀ k, O k → k < W.heap.size) → Ix c pre O W → W.heap[D]? = some (.deferred (some [])) → c.wpIn F n P Q { a with defers := { target := .collected D, args := #[] } :: a.defers } W) :
    (Code.rangeFunc g ps assign body).wpIn F n P Q a w := by
  refine wpIn_rangeFunc ?_
  intro fn hfn
  obtain ⟨rec, hrec⟩ : ∃ rec : LoopState → Option Code → Loop, rec = fun s p => { state := s, pending := p, fn, tmps := a.tmps, params := ps, assign, body, defers := w.heap.size } := ⟨_, rfl⟩
  obtain ⟨W1, hW1⟩ : ∃ W1, W1 = (w.alloc (.deferred (some []))).alloc (.loop (rec .ready none)) := ⟨_, rfl⟩
  have hmv1 : Mv (fun _ => False) w W1 := by rw [hW1]; exact ((Mv.refl _ w).alloc _).alloc _
  have hsz1 : W1.heap.size = w.heap.size + 2 := by rw [hW1]; simp
  have hL1 : W1.heap[w.heap.size + 1]? = some (.loop (rec .ready none)) := by rw [hW1]; exact at_new _ _ (by simp)
  have hK1 : W1.heap[w.heap.size]? = some (.deferred (some [])) := by rw [hW1]; exact at_alloc (at_new _ _ rfl) _
  refine ⟨w.heap.size + 1, [{ target := .collected w.heap.size, args := #[] }], W1, { target := .fn (.func gf) lb, args := #[.func (.yield (w.heap.size + 1)) #[] #[]] }, W1, gf,
    #[.func (.yield (w.heap.size + 1)) #[] #[]] ++ lb, W1, ?_, ?_, ?_, ?_, fun _ => h1, ?_⟩
  · rw [hW1, hrec, hro]; exact run_enterLoop_outer _ _ _ _ _
  · simp only [resolve, hg]
    simp [go_sem, Deferred.ofValue, Act.eval]
  · intro f' hf'; simp [Target.leads] at hf'; subst hf'; exact hFg
  · simp [invoke, go_sem, eg]
  · -- what the parties say to each other: the record and the block for deferred calls are the statement's own
    let B : (Nat → Prop) → Nat → Prop := fun O k => O k ∨ k = w.heap.size ∨ k = w.heap.size + 1
    have hBm : ∀ (O O' : Nat → Prop), (∀ k, O k → O' k) → ∀ k, B O k → B O' k := fun O O' h k hk => hk.imp (h k) id
    let J : List α → (Nat → Prop) → World → Prop := fun pre O W => I pre (B O) W ∧ Mine (w.heap.size + 1) (.loop (rec .ready none)) O W ∧ Mine w.heap.size (.deferred (some [])) O W ∧ (w.heap.size ≤ W.heap.size) ∧ (∀ k, O₀ k → O k)
    let Jx : List α → (Nat → Prop) → World → Prop := fun pre O W => (∃ c, Ix c pre (B O) W ∧ Mine (w.heap.size + 1) (.loop (rec .done (some c))) O W) ∧ Mine w.heap.size (.deferred (some [])) O W
    have hBst : ∀ {γ : Type} {K : γ → (Nat → Prop) → World → Prop}, Stable K → Stable (fun s O W => K s (B O) W) := fun hK s O O' W W' hs hm h1 h2 =>
      hK s (B O) (B O') W W' hs (hm.mono (fun k _ hk => Or.inl hk)) (hBm O O' h1) (fun k hk => by
        rcases hk with hk | hk
        · rcases h2 k hk with x | x
          · exact .inl (.inl x)
          · exact .inr x
        · exact .inl (.inr hk))
    have hJ : Stable J := (hBst hI).and ((Mine.stable (fun _ => _) (fun _ => _)).and ((Mine.stable (fun _ => _) (fun _ => _)).and (fun _ _ _ _ _ hs hm h1 _ => ⟨Nat.le_trans hs.1 hm.size, fun k hk => h1 k (hs.2 k hk)⟩)))
    have hJx : Stable Jx := (Stable.ex fun c => (hBst (hIx c)).and (Mine.stable (fun _ => _) (fun _ => _))).and (Mine.stable (fun _ => _) (fun _ => _))
    have turn : ∀ {pre : List α} {O : Nat → Prop} {W : World} (o : Obj), I pre (B O) W → I pre (B O) (W.putObj (w.heap.size + 1) o) := fun o h =>
      hI _ _ _ _ _ h ((Mv.refl _ _).putObj (.inl (.inr (.inr rfl))) o) (fun _ h => h) (fun _ h => .inl h)
    have turnx : ∀ {c : Code} {pre : List α} {O : Nat → Prop} {W : World} (o : Obj), Ix c pre (B O) W → Ix c pre (B O) (W.putObj (w.heap.size + 1) o) := fun o h =>
      hIx _ _ _ _ _ _ h ((Mv.refl _ _).putObj (.inl (.inr (.inr rfl))) o) (fun _ h => h) (fun _ h => .inl h)
    refine (hiter (w.heap.size + 1) J Jx O₀ W1 hJ hJx ?_ hmv1 (fun _ h => h) (fun k hk => by have := hO₀ k hk; omega)
      ⟨h0 _ (fun k hk => by rcases hk with hk | hk | hk; exact .inl hk; exact .inr (by omega); exact .inr (by omega)) _ hmv1, ⟨hL1, fun e => by have := hO₀ _ e; omega⟩, ⟨hK1, fun e => by have := hO₀ _ e; omega⟩, hmv1.size, fun _ h => h⟩).mono ?_
    · -- one round
      rintro pre x O W ⟨hi, ⟨hl, hlO⟩, ⟨hk, hkO⟩, hws, hOO⟩ hpre hO
      have hlt : w.heap.size + 1 < W.heap.size := lt_of_at hl
      have hy := run_yield (P := P) (args := encs x) hl (by rw [hrec]; exact hps x)
      rw [hrec] at hy
      refine ⟨fn, _, assign, body, hy, roundIn_of_wpIn hfn (hassign _ x W _ ⟨_, run_beginRound hl (by rw [hrec]), ?_⟩)⟩
      have hl2 : (W.putObj (w.heap.size + 1) (.loop { rec .ready none with state := .busy })).heap[w.heap.size + 1]? = some (.loop { rec .ready none with state := .busy }) := World.putObj_heap_same hlt
      have hk2 : (W.putObj (w.heap.size + 1) (.loop { rec .ready none with state := .busy })).heap[w.heap.size]? = some (.deferred (some [])) := (World.putObj_heap_other (by omega)).trans hk
      have hmv2 : Mv (fun k => ¬ O k ∧ ¬ Rd k) W (W.putObj (w.heap.size + 1) (.loop { rec .ready none with state := .busy })) := (Mv.refl _ _).putObj (.inl ⟨hlO, fun e => by have := hRd _ e; omega⟩) _
      refine wpIn_mono (hbody _ pre x (B O) _ (turn _ hi) hpre (fun k hk' => by simp; rcases hk' with h | h | h; exact hO k h; omega; omega) (.inr (.inr rfl)) ⟨_, hl2⟩ (fun k h => .inl (hOO k h)) (by simpa using hws)) ?_
      have fin : ∀ (jump : Option Code) (W3 : World), Mv (fun k => ¬ (B O k ∨ Rd k)) (W.putObj (w.heap.size + 1) (.loop { rec .ready none with state := .busy })) W3 →
          (Instr.endRound (w.heap.size + 1) jump).run P W3 = .ok (.bool jump.isNone) (W3.putObj (w.heap.size + 1) (.loop (rec (if jump.isNone then .ready else .done) jump))) ∧
          (W3.putObj (w.heap.size + 1) (.loop (rec (if jump.isNone then .ready else .done) jump))).heap[w.heap.size + 1]? = some (.loop (rec (if jump.isNone then .ready else .done) jump)) ∧
          (W3.putObj (w.heap.size + 1) (.loop (rec (if jump.isNone then .ready else .done) jump))).heap[w.heap.size]? = some (.deferred (some [])) ∧
          Mv (fun k => ¬ O k ∧ ¬ Rd k) W (W3.putObj (w.heap.size + 1) (.loop (rec (if jump.isNone then .ready else .done) jump))) := fun jump W3 hm3 => by
        have hl3 := hm3.at hl2 (fun h => h (.inl (.inr (.inr rfl))))
        have hk3 := hm3.at hk2 (fun h => h (.inl (.inr (.inl rfl))))
        have := run_endRound (P := P) jump hl3
        refine ⟨?_, World.putObj_heap_same (lt_of_at hl3), (World.putObj_heap_other (by omega)).trans hk3, ?_⟩
        · rw [hrec] at this ⊢; exact this
        · refine (hmv2.trans (hm3.mono (fun k _ h => ?_))).putObj (.inl ⟨hlO, fun e => by have := hRd _ e; omega⟩) _
          exact ⟨fun e => h (.inl (.inl e)), fun e => h (.inr e)⟩
      rintro e a3 W3 hp
      cases e with
      | normal =>
        obtain ⟨hm3, hi3⟩ := hp
        obtain ⟨hr, hl4, hk4, hm4⟩ := fin none W3 hm3
        exact ⟨_, _, hr, .inl ⟨rfl, ⟨turn _ hi3, ⟨hl4, hlO⟩, ⟨hk4, hkO⟩, Nat.le_trans hws hm4.size, hOO⟩, hm4⟩⟩
      | ret =>
        obtain ⟨hm3, hi3⟩ := hp
        obtain ⟨hr, hl4, hk4, hm4⟩ := fin (some .ret) W3 hm3
        exact ⟨_, _, hr, .inr ⟨rfl, ⟨⟨.ret, turnx _ hi3, hl4, hlO⟩, hk4, hkO⟩, hm4⟩⟩
      | exit id =>
        obtain ⟨hm3, hi3⟩ := hp
        obtain ⟨hr, hl4, hk4, hm4⟩ := fin (some (.exit id)) W3 hm3
        exact ⟨_, _, hr, .inr ⟨rfl, ⟨⟨.exit id, turnx _ hi3, hl4, hlO⟩, hk4, hkO⟩, hm4⟩⟩
      | goto t =>
        obtain ⟨hm3, hi3⟩ := hp
        obtain ⟨hr, hl4, hk4, hm4⟩ := fin (some (.goto t)) W3 hm3
        exact ⟨_, _, hr, .inr ⟨rfl, ⟨⟨.goto t, turnx _ hi3, hl4, hlO⟩, hk4, hkO⟩, hm4⟩⟩
      | panic ch => exact hp.elim
      | outgrown => exact hp.elim
    · -- behind the iterator
      rintro e W2 ⟨⟨v, rfl⟩, (⟨xs, O, hS, ⟨hi, ⟨hl, hlO⟩, ⟨hk, hkO⟩, _⟩, hO⟩ | ⟨pre, O, ⟨⟨c, hi, hl, hlO⟩, hk, hkO⟩, hO⟩)⟩
      · exact ⟨none, _, by have := run_endLoop (P := P) hl (by rw [hrec]; simp); rw [hrec] at this; exact this,
          hdone _ xs (B O) _ (Nat.le_refl _) (.inr (.inl rfl)) (fun k hk' => by have := lt_of_at hl; simp; rcases hk' with h | h | h; exact hO k h; omega; omega) hS (turn _ hi) ((World.putObj_heap_other (by omega)).trans hk)⟩
      · exact ⟨some c, _, by have := run_endLoop (P := P) hl (by rw [hrec]; simp); rw [hrec] at this; exact this,
          hstop _ c pre (B O) _ (Nat.le_refl _) (.inr (.inl rfl)) (fun k hk' => by have := lt_of_at hl; simp; rcases hk' with h | h | h; exact hO k h; omega; omega) (turnx _ hi) ((World.putObj_heap_other (by omega)).trans hk)⟩
end

/-! ### A region that draws its order, in a round -/
section
variable {P : Program} {ops : Array Oper} {Q : Exit → Act → World → Prop} {S : World → Prop} {ds : List Nat} {r : Option Nat} {n : Nat}

def noDefer (ops : Array Oper) : Bool := ops.all fun o => match o.op with | .defer _ => false | _ => true

theorem uponIn_of {o : Oper} {a : Act} {next next' : Act → World → Prop} (hn : ∀ a w, next a w → next' a w) {res : Result Next} (h : o.upon P a next Q res) : o.uponIn { Fence.wide with round := r } n P a next' Q res := by
  cases res with
  | ok x w' =>
    cases x <;> simp only [Oper.upon, Oper.uponIn] at h ⊢
    case value => exact hn _ _ h
    case skip => exact hn _ _ h
    case defer => exact hn _ _ h
    case enter f args => exact ⟨fun h => by simp [Fence.wide] at h, callsIn_wideR (Calls.mono h (fun e w'' he => by cases e <;> first | exact hn _ _ he | exact he))⟩
    case row row args =>
      refine ⟨fun h => by simp [Fence.wide] at h, fun c cs _ => ?_⟩
      obtain ⟨v, w', hv, hs⟩ := h c cs
      exact ⟨v, w', hn _ _ hv, stepsIn_wide.2 hs⟩
  | halt x w' => cases x <;> simp only [Oper.upon, Oper.uponIn] at h ⊢ <;> exact h

theorem opsIn_of (hd : noDefer ops = true) (hQ : ∀ a w, ¬ Q .outgrown a w) : ∀ (l : List Nat) (a : Act) (w : World), wpOps P ops Q l a w → wpOpsIn { Fence.wide with round := r } n P ops Q l a w
  | [], a, w, h => h
  | i :: rest, a, w, h => by
    simp only [wpOps, wpOpsIn] at h ⊢
    cases ho : ops[i]? with
    | none => simp only [ho] at h ⊢; exact opsIn_of hd hQ rest a w h
    | some o =>
      simp only [ho] at h ⊢
      have hdo : ∀ c, o.op ≠ .defer c := fun c hc => by
        have h1 := Array.all_eq_true_iff_forall_mem.1 hd o (Array.mem_of_getElem? ho)
        simp [hc] at h1
      by_cases hw : Region.wanted o (yielded ops a.tmps) = true
      · simp only [hw, if_true] at h ⊢
        rcases h with h | ⟨_, a0, w0, hq⟩
        · refine ⟨fun _ _ => trivial, ?_⟩
          rw [Oper.semAt_plain _ _ _ hdo]
          exact uponIn_of (fun a w => opsIn_of hd hQ rest a w) h
        · exact absurd hq (hQ _ _)
      · simp only [hw, Bool.false_eq_true, if_false] at h ⊢
        exact ⟨fun _ _ => trivial, opsIn_of hd hQ rest _ w h⟩

theorem startIn_ {id N : Nat} {a : Act} {w : World} (l : Array Bool) (hm : P.follows .mixedOrders = true) (hn : ops.size = N) (hd : noDefer ops = true) (hQ : ∀ a w, ¬ Q .outgrown a w) (hl : Array.replicate N false = l) (hS : S w.drew)
    (h : S w.drew → wpAnyLast P .any ops Q S ds N l a w.drew) : (Code.region id ops true).wpIn { Fence.wide with round := r } n P Q a w := by
  subst hn
  subst hl
  refine wpIn_region_draw fun t => opsIn_of hd hQ _ _ _ ?_
  have h2 := wpAny_of_last _ _ _ _ (h hS)
  simp only [Region.schedule, hm, Bool.true_or, if_true]
  exact wpAny_sound ops.size t _ a _ h2
end
end Go.Proofs.YtimflmgdnfpodaaRF
