/- Parts of the proof of one statement, packed: what the program's functions compute. No conditions. -/
import Derived.RangeFuncCalls
import Derived.RangeFuncLeaves
import Derived.RangeFuncBound
import Derived.WalkKit
import Derived.OwnWalkIn
import Derived.TacticsInMore
import Derived.LoopNIn
import Derived.LoopIn
import Derived.Test.YtfhgmebhdchegaaDoorKCK0
import Derived.KernelRfl
import Derived.Test.YtfhgmebhdchegaaDoorProg
import Derived.Deep.QuietTactic
import Derived.BigQuiet
import Derived.Laws.EntriesVeiled
import Derived.WalkLawsBesides
import Derived.Below
import Derived.Deep.Draws
import Derived.Deep.AppendLies
import Derived.Maps.AppendAt
import Derived.OwnWalk
import Derived.Laws.BytesArg
import Derived.Laws.MakeOwn
import Derived.Laws.OwnMore
import Derived.Deep.OwnRows
import Derived.Tactics
import Derived.Lib.ConvBytes
import Derived.Laws.Slices
import Derived.RowKit3
import Derived.Deep.LoopGhost
import Derived.WideLaws
import Derived.Deep.DeepCutAuto
import Derived.Deep.CutBlock
import Derived.Deep.RegionHeld3
import Derived.Laws.Rows
import Derived.Lib.AppendStr
import Derived.ArgAppend
import Derived.Laws.IdiomCopy
import Derived.OrdersHeld
import Derived.Laws.BitsLemmas
import Derived.RowKit
import Derived.Shelf.RegionOpenPlain
import Derived.Lib.Walk
import Derived.Sort.WalkB12
import Derived.Lib.SlicesMore
set_option linter.unusedSimpArgs false
set_option linter.unusedVariables false
set_option maxRecDepth 100000
set_option maxHeartbeats 8000000
namespace Go.Proofs
theorem k9 {p : Prop} (h : p := by kernel_rfl) : p := h
theorem o9 {p : Prop} (h : p := by omega) : p := h
theorem d9 {p : Prop} (h : p := by decide) : p := h
theorem s9 {p : Prop} (h : p := by simp) : p := h
theorem q9 {p : Prop} (h : p := by go_simp) : p := h
theorem m9 {p : Prop} (h : p := by (try simp only [List.map_toArray, List.map_cons, List.map_nil]); first | done | rfl | (simp only [List.length_drop, List.length_take]; rfl)) : p := h
end Go.Proofs
section
namespace Go.Proofs.YtfhgmebhdchegaaDoorRF
open Go.RowKit Go.Proofs.YtfhgmebhdchegaaDoorW.zas Go.Proofs.YtfhgmebhdchegaaDoorW.zai
structure Mv (O : Nat → Prop) (W W' : World) : Prop where
 os : W'.os = W.os
 tape : W'.tape = W.tape
 output : W'.output = W.output
 size : W.heap.size ≤ W'.heap.size
 block : ∀ k, k < W.heap.size → ¬ O k → W'.heap[k]? = W.heap[k]?
theorem Mv.refl (O : Nat → Prop) (W : World) : Mv O W W := ⟨rfl, rfl, rfl, Nat.le_refl _, fun _ _ _ => rfl⟩
theorem Mv.trans {O : Nat → Prop} {A B C : World} (h : Mv O A B) (k : Mv O B C) : Mv O A C :=
 ⟨k.os.trans h.os, k.tape.trans h.tape, k.output.trans h.output, Nat.le_trans h.size k.size, fun i hi ho => (k.block i (Nat.lt_of_lt_of_le hi h.size) ho).trans (h.block i hi ho)⟩
theorem Mv.mono {O O' : Nat → Prop} {A B : World} (h : Mv O A B) (hO : ∀ k, k < A.heap.size → O k → O' k) : Mv O' A B :=
 ⟨h.os, h.tape, h.output, h.size, fun k hk ho => h.block k hk (fun e => ho (hO k hk e))⟩
theorem Mv.of_below {n : Nat} {A B : World} (h : Below n A B) : Mv (fun k => n ≤ k) A B :=
 ⟨h.os, h.tape, h.output, h.size, fun k _ ho => h.block k o9⟩
theorem Mv.zbN {A B : World} (h : Below A.heap.size A B) (O : Nat → Prop) : Mv O A B :=
 ⟨h.os, h.tape, h.output, h.size, fun k hk _ => h.block k hk⟩
theorem Mv.below {O : Nat → Prop} {n : Nat} {A B : World} (h : Mv O A B) (hn : n ≤ A.heap.size) (hO : ∀ k, O k → n ≤ k) : Below n A B :=
 ⟨h.os, h.tape, h.output, h.size, fun k hk => h.block k o9 (fun e => by have := hO k e; omega)⟩
theorem Mv.drew {O : Nat → Prop} {A B : World} (h : Mv O A B) : Mv O A B.drew := ⟨h.os, h.tape, h.output, h.size, h.block⟩
theorem Mv.alloc {O : Nat → Prop} {A B : World} (h : Mv O A B) (o : Obj) : Mv O A (B.alloc o) :=
 ⟨h.os, h.tape, h.output, by have := h.size; simp; omega, fun k hk ho => (Below.heap_alloc B o k (by have := h.size; omega)).trans (h.block k hk ho)⟩
theorem Mv.setCell {O : Nat → Prop} {A B : World} (h : Mv O A B) {p : Addr} (hp : O p.block ∨ A.heap.size ≤ p.block) (u : Value) : Mv O A (B.setCell p u) :=
 ⟨h.os, h.tape, h.output, by have := h.size; simpa [World.setCell] using this, fun k hk ho => (Below.heap_setCell B p u k (fun e => by subst e; rcases hp with hp | hp; exact ho hp; omega)).trans (h.block k hk ho)⟩
theorem Mv.putObj {O : Nat → Prop} {A B : World} (h : Mv O A B) {r : Nat} (hp : O r ∨ A.heap.size ≤ r) (o : Obj) : Mv O A (B.putObj r o) :=
 ⟨h.os, h.tape, h.output, by simpa using h.size, fun k hk ho => (World.putObj_heap_other (fun e => by subst e; rcases hp with hp | hp; exact ho hp; omega)).trans (h.block k hk ho)⟩
theorem Mv.grown {O : Nat → Prop} {A B C : World} {row : Option Nat} (h : Mv O A B) (hg : B.grownBy C row) (hr : ∀ k, row = some k → O k ∨ A.heap.size ≤ k) : Mv O A C :=
 ⟨hg.os.trans h.os, hg.tape.trans h.tape, hg.output.trans h.output, Nat.le_trans h.size hg.size, fun k hk ho => (hg.block k (by have := h.size; omega) (fun e => by rcases hr k e.symm with x | x; exact ho x; omega)).trans (h.block k hk ho)⟩
theorem Mv.at {O : Nat → Prop} {A B : World} (h : Mv O A B) {k : Nat} {o : Obj} (hk : A.heap[k]? = some o) (ho : ¬ O k) : B.heap[k]? = some o :=
 (h.block k (Array.getElem?_eq_some_iff.1 hk).1 ho).trans hk
theorem zam {W : World} {k : Nat} {o : Obj} (h : W.heap[k]? = some o) : k < W.heap.size := (Array.getElem?_eq_some_iff.1 h).1
theorem zaI {W : World} {k : Nat} {o : Obj} (h : W.heap[k]? = some o) (o' : Obj) : (W.alloc o').heap[k]? = some o := (Below.heap_alloc W o' k (zam h)).trans h
theorem at_new (W : World) (o : Obj) {n : Nat} (hn : n = W.heap.size) : (W.alloc o).heap[n]? = some o := by subst hn; exact World.alloc_heap_new W o
theorem at_set {W : World} {k : Nat} {o : Obj} (h : W.heap[k]? = some o) {p : Addr} (hp : k ≠ p.block) (u : Value) : (W.setCell p u).heap[k]? = some o := (Below.heap_setCell W p u k hp).trans h
theorem zcm {W : World} {k : Nat} {o : Obj} (h : W.heap[k]? = some o) {r : Nat} (hp : k ≠ r) (o' : Obj) : (W.putObj r o').heap[k]? = some o := (World.putObj_heap_other hp).trans h
theorem zb6 {W : World} {k : Nat} {o : Obj} (h : W.heap[k]? = some o) : W.drew.heap[k]? = some o := h
theorem zah {W : World} {b : Nat} {cs : Array Value} {t : TypeId} (h : W.heap[b]? = some (.cells cs t (0, 0))) (i : Nat) : W.cell? ⟨b, i, none⟩ = cs[i]? := by simp [World.cell?, h]
theorem free_at {W : World} {b : Nat} {cs : Array Value} {t : TypeId} (h : W.heap[b]? = some (.cells cs t (0, 0))) (i : Nat) : W.frozen? ⟨b, i, none⟩ = false := by simp [World.frozen?, h]
theorem zbo {W : World} {b : Nat} {cs : Array Value} {t : TypeId} (h : W.heap[b]? = some (.cells cs t (0, 0))) (i : Nat) (v : Value) : (W.setCell ⟨b, i, none⟩ v).heap[b]? = some (.cells (cs.setIfInBounds i v) t (0, 0)) := by
 have hb := zam h
 simp only [World.setCell, Array.getElem?_modify, if_true, h, Option.map_some]
 rfl
def Stable {β : Type} (J : β → (Nat → Prop) → World → Prop) : Prop :=
 ∀ s O O' W W', J s O W → Mv O W W' → (∀ k, O k → O' k) → (∀ k, O' k → O k ∨ W.heap.size ≤ k) → J s O' W'
theorem Stable.and {β : Type} {J K : β → (Nat → Prop) → World → Prop} (h : Stable J) (k : Stable K) : Stable (fun s O W => J s O W ∧ K s O W) :=
 fun s O O' W W' hs hm h1 h2 => ⟨h s O O' W W' hs.1 hm h1 h2, k s O O' W W' hs.2 hm h1 h2⟩
theorem Stable.pure {β : Type} (p : β → Prop) : Stable (fun s (_ : Nat → Prop) (_ : World) => p s) := fun _ _ _ _ _ hs _ _ _ => hs
theorem Stable.ex {β γ : Type} {J : γ → β → (Nat → Prop) → World → Prop} (h : ∀ c, Stable (J c)) : Stable (fun s O W => ∃ c, J c s O W) :=
 fun s O O' W W' ⟨c, hs⟩ hm h1 h2 => ⟨c, h c s O O' W W' hs hm h1 h2⟩
structure Mine (b : Nat) (o : Obj) (O : Nat → Prop) (W : World) : Prop where
 lies : W.heap[b]? = some o
 mine : ¬ O b
theorem Mine.set {b : Nat} {o : Obj} {O : Nat → Prop} {W : World} (h : Mine b o O W) {p : Addr} (hp : b ≠ p.block) (u : Value) : Mine b o O (W.setCell p u) := ⟨at_set h.1 hp u, h.2⟩
theorem Mine.put {b : Nat} {o : Obj} {O : Nat → Prop} {W : World} (h : Mine b o O W) {r : Nat} (hp : b ≠ r) (u : Obj) : Mine b o O (W.putObj r u) := ⟨zcm h.1 hp u, h.2⟩
theorem Mine.one {b : Nat} {v : Value} {T : Nat} {O : Nat → Prop} {W : World} (h : Mine b (.cells #[v] T (0, 0)) O W) (u : Value) : Mine b (.cells #[u] T (0, 0)) O (W.setCell ⟨b, 0, none⟩ u) := ⟨by simpa using zbo h.1 0 u, h.2⟩
theorem Mine.stable {β : Type} (b : β → Nat) (o : β → Obj) : Stable (fun s O W => Mine (b s) (o s) O W) :=
 fun _ _ _ _ _ hs hm _ h2 => ⟨hm.at hs.1 hs.2, fun e => (h2 _ e).elim hs.2 (fun x => by have := zam hs.1; omega)⟩
section
variable {F : Fence} {n : Nat} {P : Program}
theorem zel {r : Option Nat} {f : FuncId} {args : Array Value} {w : World} {R : Ending → World → Prop} (h : Calls P f args w R) : CallsIn { Fence.wide with round := r } n P f args w R :=
 (callsIn_wide (n := n)).2 h
def rpost {α : Type} (O : Nat → Prop) (I : List α → (Nat → Prop) → World → Prop) (Ix : Code → List α → (Nat → Prop) → World → Prop) (xs : List α) (W : World) : Exit → Act → World → Prop
 | .normal, _, W' => Mv (fun k => ¬ O k) W W' ∧ I xs O W'
 | .ret, _, W' => Mv (fun k => ¬ O k) W W' ∧ Ix .ret xs O W'
 | .exit id, _, W' => Mv (fun k => ¬ O k) W W' ∧ Ix (.exit id) xs O W'
 | .goto t, _, W' => Mv (fun k => ¬ O k) W W' ∧ Ix (.goto t) xs O W'
 | .panic _, _, _ => False
 | .outgrown, _, _ => False
def Iter {α : Type} (F : Fence) (n : Nat) (P : Program) (gf : Nat) (lb : Array Value) (encs : α → Array Value) (Pre S : List α → Prop) (O₀ Rd : Nat → Prop) (w : World) : Prop :=
 ∀ (l : Nat) (J Jx : List α → (Nat → Prop) → World → Prop) (O : Nat → Prop) (W : World), Stable J → Stable Jx →
  (∀ pre x O W, J pre O W → Pre (pre ++ [x]) → (∀ k, O k → k < W.heap.size) → YieldAt F (n - 1) P l (encs x) W fun e W' =>
   (e = .returned (.bool true) ∧ J (pre ++ [x]) O W' ∧ Mv (fun k => ¬ O k ∧ ¬ Rd k) W W') ∨ (e = .returned (.bool false) ∧ Jx (pre ++ [x]) O W' ∧ Mv (fun k => ¬ O k ∧ ¬ Rd k) W W')) →
  Mv (fun _ => False) w W → (∀ k, O₀ k → O k) → (∀ k, O k → k < W.heap.size) → J [] O W →
  CallsIn F n P gf (#[.func (.yield l) #[] #[]] ++ lb) W fun e W' => (∃ v, e = .returned v) ∧
   ((∃ xs O, S xs ∧ J xs O W' ∧ ∀ k, O k → k < W'.heap.size) ∨ (∃ pre O, Jx pre O W' ∧ ∀ k, O k → k < W'.heap.size))
theorem zd7 {α : Type} {g : Operand} {ps : Array Tmp} {assign body : Code} {Q : Exit → Act → World → Prop} {a : Act} {w : World}
  (hro : F.round = none) (h1 : 1 ≤ n) (gf : Nat) (lb : Array Value) (hg : a.eval g = .func (.func gf) #[] lb) (hFg : F.fn gf) (eg : ∀ args w, (callFunc gf args).run P w = .ok (.enter gf args) w)
  (encs : α → Array Value) (hps : ∀ x, (encs x).size = ps.size) {Pre S : List α → Prop} (O₀ Rd : Nat → Prop) (hO₀ : ∀ k, O₀ k → k < w.heap.size) (hRd : ∀ k, Rd k → k < w.heap.size)
  (hiter : Iter F (n - 1) P gf lb encs Pre S O₀ Rd w)
  (I : List α → (Nat → Prop) → World → Prop) (Ix : Code → List α → (Nat → Prop) → World → Prop) (hI : Stable I) (hIx : ∀ c, Stable (Ix c))
  (h0 : ∀ O, (∀ k, O k → O₀ k ∨ w.heap.size ≤ k) → ∀ W, Mv (fun _ => False) w W → I [] O W) (a₁ : α → Act)
  (hassign : ∀ (l : Nat) (x : α) (W : World) (K : Act → World → Prop), K (a₁ x) W →
   assign.wpIn (F.inRound l) (n - 1 - 1) P (Exit.then K (fun _ _ _ => False)) { tmps := (ps.zip (encs x)).foldl (fun t (p, v) => t.setIfInBounds p v) a.tmps, defers := [] } W)
  (hbody : ∀ (l : Nat) (pre : List α) (x : α) (O : Nat → Prop) (W : World), I pre O W → Pre (pre ++ [x]) → (∀ k, O k → k < W.heap.size) → O l → (∃ r, W.heap[l]? = some (.loop r)) → (∀ k, O₀ k → O k) → w.heap.size ≤ W.heap.size →
   body.wpIn (F.inRound l) (n - 1 - 1) P (rpost (fun k => O k ∨ Rd k) (fun s _ W => I s O W) (fun c s _ W => Ix c s O W) (pre ++ [x]) W) (a₁ x) W)
  (hdone : ∀ (D : Nat) (xs : List α) (O : Nat → Prop) (W : World), w.heap.size ≤ D → O D → (∀ k, O k → k < W.heap.size) → S xs → I xs O W → W.heap[D]? = some (.deferred (some [])) → Q .normal { a with defers := { target := .collected D, args := #[] } :: a.defers } W)
  (hstop : ∀ (D : Nat) (c : Code) (pre : List α) (O : Nat → Prop) (W : World), w.heap.size ≤ D → O D → (∀ k, O k → k < W.heap.size) → Ix c pre O W → W.heap[D]? = some (.deferred (some [])) → c.wpIn F n P Q { a with defers := { target := .collected D, args := #[] } :: a.defers } W) :
  (Code.rangeFunc g ps assign body).wpIn F n P Q a w := by
 refine wpIn_rangeFunc ?_
 intro fn hfn
 obtain ⟨rec, hrec⟩ : ∃ rec : LoopState → Option Code → Loop, rec = fun s p => { state := s, pending := p, fn, tmps := a.tmps, params := ps, assign, body, defers := w.heap.size } := ⟨_, rfl⟩
 obtain ⟨W1, hW1⟩ : ∃ W1, W1 = (w.alloc (.deferred (some []))).alloc (.loop (rec .ready none)) := ⟨_, rfl⟩
 have hmv1 : Mv (fun _ => False) w W1 := by rw [hW1]; exact ((Mv.refl _ w).alloc _).alloc _
 have hsz1 : W1.heap.size = w.heap.size + 2 := by rw [hW1]; simp
 have hL1 : W1.heap[w.heap.size + 1]? = some (.loop (rec .ready none)) := by rw [hW1]; exact at_new _ _ s9
 have hK1 : W1.heap[w.heap.size]? = some (.deferred (some [])) := by rw [hW1]; exact zaI (at_new _ _ rfl) _
 refine ⟨w.heap.size + 1, [{ target := .collected w.heap.size, args := #[] }], W1, { target := .fn (.func gf) lb, args := #[.func (.yield (w.heap.size + 1)) #[] #[]] }, W1, gf,
  #[.func (.yield (w.heap.size + 1)) #[] #[]] ++ lb, W1, ?_, ?_, ?_, ?_, fun _ => h1, ?_⟩
 ·
  rw [hW1, hrec, hro]; exact run_enterLoop_outer _ _ _ _ _
 ·
  simp only [resolve, hg]
  simp [go_sem, Deferred.ofValue, Act.eval]
 ·
  intro f' hf'; simp [Target.leads] at hf'; subst hf'; exact hFg
 ·
  simp [invoke, go_sem, eg]
 ·
  -- what the parties say to each other: the record and the block for deferred calls are the statement's own
  let B : (Nat → Prop) → Nat → Prop := fun O k => O k ∨ k = w.heap.size ∨ k = w.heap.size + 1
  have hBm : ∀ (O O' : Nat → Prop), (∀ k, O k → O' k) → ∀ k, B O k → B O' k := fun O O' h k hk => hk.imp (h k) id
  let J : List α → (Nat → Prop) → World → Prop := fun pre O W => I pre (B O) W ∧ Mine (w.heap.size + 1) (.loop (rec .ready none)) O W ∧ Mine w.heap.size (.deferred (some [])) O W ∧ (w.heap.size ≤ W.heap.size) ∧ (∀ k, O₀ k → O k)
  let Jx : List α → (Nat → Prop) → World → Prop := fun pre O W => (∃ c, Ix c pre (B O) W ∧ Mine (w.heap.size + 1) (.loop (rec .done (some c))) O W) ∧ Mine w.heap.size (.deferred (some [])) O W
  have hBst : ∀ {γ : Type} {K : γ → (Nat → Prop) → World → Prop}, Stable K → Stable (fun s O W => K s (B O) W) := fun hK s O O' W W' hs hm h1 h2 =>
   hK s (B O) (B O') W W' hs (hm.mono (fun k _ hk => Or.inl hk)) (hBm O O' h1) (fun k hk => by
    rcases hk with hk | hk
    ·
     rcases h2 k hk with x | x
     ·
      exact .inl (.inl x)
     ·
      exact .inr x
    ·
     exact .inl (.inr hk))
  have hJ : Stable J := (hBst hI).and ((Mine.stable (fun _ => _) (fun _ => _)).and ((Mine.stable (fun _ => _) (fun _ => _)).and (fun _ _ _ _ _ hs hm h1 _ => ⟨Nat.le_trans hs.1 hm.size, fun k hk => h1 k (hs.2 k hk)⟩)))
  have hJx : Stable Jx := (Stable.ex fun c => (hBst (hIx c)).and (Mine.stable (fun _ => _) (fun _ => _))).and (Mine.stable (fun _ => _) (fun _ => _))
  have turn : ∀ {pre : List α} {O : Nat → Prop} {W : World} (o : Obj), I pre (B O) W → I pre (B O) (W.putObj (w.heap.size + 1) o) := fun o h =>
   hI _ _ _ _ _ h ((Mv.refl _ _).putObj (.inl (.inr (.inr rfl))) o) (fun _ h => h) (fun _ h => .inl h)
  have turnx : ∀ {c : Code} {pre : List α} {O : Nat → Prop} {W : World} (o : Obj), Ix c pre (B O) W → Ix c pre (B O) (W.putObj (w.heap.size + 1) o) := fun o h =>
   hIx _ _ _ _ _ _ h ((Mv.refl _ _).putObj (.inl (.inr (.inr rfl))) o) (fun _ h => h) (fun _ h => .inl h)
  refine (hiter (w.heap.size + 1) J Jx O₀ W1 hJ hJx ?_ hmv1 (fun _ h => h) (fun k hk => by have := hO₀ k hk; omega)
   ⟨h0 _ (fun k hk => by rcases hk with hk | hk | hk; exact .inl hk; exact .inr o9; exact .inr o9) _ hmv1, ⟨hL1, fun e => by have := hO₀ _ e; omega⟩, ⟨hK1, fun e => by have := hO₀ _ e; omega⟩, hmv1.size, fun _ h => h⟩).mono ?_
  ·
   -- one round
   rintro pre x O W ⟨hi, ⟨hl, hlO⟩, ⟨hk, hkO⟩, hws, hOO⟩ hpre hO
   have hlt : w.heap.size + 1 < W.heap.size := zam hl
   have hy := run_yield (P := P) (args := encs x) hl (by rw [hrec]; exact hps x)
   rw [hrec] at hy
   refine ⟨fn, _, assign, body, hy, roundIn_of_wpIn hfn (hassign _ x W _ ⟨_, run_beginRound hl (by rw [hrec]), ?_⟩)⟩
   have hl2 : (W.putObj (w.heap.size + 1) (.loop { rec .ready none with state := .busy })).heap[w.heap.size + 1]? = some (.loop { rec .ready none with state := .busy }) := World.putObj_heap_same hlt
   have hk2 : (W.putObj (w.heap.size + 1) (.loop { rec .ready none with state := .busy })).heap[w.heap.size]? = some (.deferred (some [])) := (World.putObj_heap_other o9).trans hk
   have hmv2 : Mv (fun k => ¬ O k ∧ ¬ Rd k) W (W.putObj (w.heap.size + 1) (.loop { rec .ready none with state := .busy })) := (Mv.refl _ _).putObj (.inl ⟨hlO, fun e => by have := hRd _ e; omega⟩) _
   refine wpIn_mono (hbody _ pre x (B O) _ (turn _ hi) hpre (fun k hk' => by simp; rcases hk' with h | h | h; exact hO k h; omega; omega) (.inr (.inr rfl)) ⟨_, hl2⟩ (fun k h => .inl (hOO k h)) (by simpa using hws)) ?_
   have fin : ∀ (jump : Option Code) (W3 : World), Mv (fun k => ¬ (B O k ∨ Rd k)) (W.putObj (w.heap.size + 1) (.loop { rec .ready none with state := .busy })) W3 →
     (Instr.endRound (w.heap.size + 1) jump).run P W3 = .ok (.bool jump.isNone) (W3.putObj (w.heap.size + 1) (.loop (rec (if jump.isNone then .ready else .done) jump))) ∧
     (W3.putObj (w.heap.size + 1) (.loop (rec (if jump.isNone then .ready else .done) jump))).heap[w.heap.size + 1]? = some (.loop (rec (if jump.isNone then .ready else .done) jump)) ∧
     (W3.putObj (w.heap.size + 1) (.loop (rec (if jump.isNone then .ready else .done) jump))).heap[w.heap.size]? = some (.deferred (some [])) ∧
     Mv (fun k => ¬ O k ∧ ¬ Rd k) W (W3.putObj (w.heap.size + 1) (.loop (rec (if jump.isNone then .ready else .done) jump))) := fun jump W3 hm3 => by
    have hl3 := hm3.at hl2 (fun h => h (.inl (.inr (.inr rfl))))
    have hk3 := hm3.at hk2 (fun h => h (.inl (.inr (.inl rfl))))
    have := run_endRound (P := P) jump hl3
    refine ⟨?_, World.putObj_heap_same (zam hl3), (World.putObj_heap_other o9).trans hk3, ?_⟩
    ·
     rw [hrec] at this ⊢; exact this
    ·
     refine (hmv2.trans (hm3.mono (fun k _ h => ?_))).putObj (.inl ⟨hlO, fun e => by have := hRd _ e; omega⟩) _
     exact ⟨fun e => h (.inl (.inl e)), fun e => h (.inr e)⟩
   rintro e a3 W3 hp
   cases e with
   | normal =>
    obtain ⟨hm3, hi3⟩ := hp
    obtain ⟨hr, hl4, hk4, hm4⟩ := fin none W3 hm3
    exact ⟨_, _, hr, .inl ⟨rfl, ⟨turn _ hi3, ⟨hl4, hlO⟩, ⟨hk4, hkO⟩, Nat.le_trans hws hm4.size, hOO⟩, hm4⟩⟩
   | ret =>
    obtain ⟨hm3, hi3⟩ := hp
    obtain ⟨hr, hl4, hk4, hm4⟩ := fin (some .ret) W3 hm3
    exact ⟨_, _, hr, .inr ⟨rfl, ⟨⟨.ret, turnx _ hi3, hl4, hlO⟩, hk4, hkO⟩, hm4⟩⟩
   | exit id =>
    obtain ⟨hm3, hi3⟩ := hp
    obtain ⟨hr, hl4, hk4, hm4⟩ := fin (some (.exit id)) W3 hm3
    exact ⟨_, _, hr, .inr ⟨rfl, ⟨⟨.exit id, turnx _ hi3, hl4, hlO⟩, hk4, hkO⟩, hm4⟩⟩
   | goto t =>
    obtain ⟨hm3, hi3⟩ := hp
    obtain ⟨hr, hl4, hk4, hm4⟩ := fin (some (.goto t)) W3 hm3
    exact ⟨_, _, hr, .inr ⟨rfl, ⟨⟨.goto t, turnx _ hi3, hl4, hlO⟩, hk4, hkO⟩, hm4⟩⟩
   | panic ch => exact hp.elim
   | outgrown => exact hp.elim
  ·
   -- behind the iterator
   rintro e W2 ⟨⟨v, rfl⟩, (⟨xs, O, hS, ⟨hi, ⟨hl, hlO⟩, ⟨hk, hkO⟩, _⟩, hO⟩ | ⟨pre, O, ⟨⟨c, hi, hl, hlO⟩, hk, hkO⟩, hO⟩)⟩
   ·
    exact ⟨none, _, by have := run_endLoop (P := P) hl (by rw [hrec]; simp); rw [hrec] at this; exact this,
     hdone _ xs (B O) _ (Nat.le_refl _) (.inr (.inl rfl)) (fun k hk' => by have := zam hl; simp; rcases hk' with h | h | h; exact hO k h; omega; omega) hS (turn _ hi) ((World.putObj_heap_other o9).trans hk)⟩
   ·
    exact ⟨some c, _, by have := run_endLoop (P := P) hl (by rw [hrec]; simp); rw [hrec] at this; exact this,
     hstop _ c pre (B O) _ (Nat.le_refl _) (.inr (.inl rfl)) (fun k hk' => by have := zam hl; simp; rcases hk' with h | h | h; exact hO k h; omega; omega) (turnx _ hi) ((World.putObj_heap_other o9).trans hk)⟩
end
section
variable {P : Program} {ops : Array Oper} {Q : Exit → Act → World → Prop} {S : World → Prop} {ds : List Nat} {r : Option Nat} {n : Nat}
def zeK (ops : Array Oper) : Bool := ops.all fun o => match o.op with | .defer _ => false | _ => true
theorem zfY {o : Oper} {a : Act} {next next' : Act → World → Prop} (hn : ∀ a w, next a w → next' a w) {res : Result Next} (h : o.upon P a next Q res) : o.uponIn { Fence.wide with round := r } n P a next' Q res := by
 cases res with
 | ok x w' =>
  cases x <;> simp only [Oper.upon, Oper.uponIn] at h ⊢
  case value => exact hn _ _ h
  case skip => exact hn _ _ h
  case defer => exact hn _ _ h
  case enter f args => exact ⟨fun h => by simp [Fence.wide] at h, zel (Calls.mono h (fun e w'' he => by cases e <;> first | exact hn _ _ he | exact he))⟩
  case row row args =>
   refine ⟨fun h => by simp [Fence.wide] at h, fun c cs _ => ?_⟩
   obtain ⟨v, w', hv, hs⟩ := h c cs
   exact ⟨v, w', hn _ _ hv, stepsIn_wide.2 hs⟩
 | halt x w' => cases x <;> simp only [Oper.upon, Oper.uponIn] at h ⊢ <;> exact h
theorem zds (hd : zeK ops = true) (hQ : ∀ a w, ¬ Q .outgrown a w) : ∀ (l : List Nat) (a : Act) (w : World), wpOps P ops Q l a w → wpOpsIn { Fence.wide with round := r } n P ops Q l a w
 | [], a, w, h => h
 | i :: rest, a, w, h => by
  simp only [wpOps, wpOpsIn] at h ⊢
  cases ho : ops[i]? with
  | none => simp only [ho] at h ⊢; exact zds hd hQ rest a w h
  | some o =>
   simp only [ho] at h ⊢
   have hdo : ∀ c, o.op ≠ .defer c := fun c hc => by
    have h1 := Array.all_eq_true_iff_forall_mem.1 hd o (Array.mem_of_getElem? ho)
    simp [hc] at h1
   by_cases hw : Region.wanted o (yielded ops a.tmps) = true
   ·
    simp only [hw, if_true] at h ⊢
    rcases h with h | ⟨_, a0, w0, hq⟩
    ·
     refine ⟨fun _ _ => trivial, ?_⟩
     rw [Oper.semAt_plain _ _ _ hdo]
     exact zfY (fun a w => zds hd hQ rest a w) h
    ·
     exact absurd hq (hQ _ _)
   ·
    simp only [hw, Bool.false_eq_true, if_false] at h ⊢
    exact ⟨fun _ _ => trivial, zds hd hQ rest _ w h⟩
end
end Go.Proofs.YtfhgmebhdchegaaDoorRF
end

section
namespace Go.Proofs.YtfhgmebhdchegaaDoorRG
open Go.RowKit Go.Proofs.YtfhgmebhdchegaaDoorW.zas Go.Proofs.YtfhgmebhdchegaaDoorW.zai Go.Proofs.YtfhgmebhdchegaaDoorRF
section
variable (P : Program) (ops : Array Oper) (Q : Exit → Act → World → Prop) (ρ : World → World → Prop) (a0 : Act) (w0 : World) (m : Nat)
def needs (i : Nat) : List Nat := match ops[i]? with | some o => (o.after.toList.filter (Region.binds .any)).map (·.on) | none => []
def zaM (j : Nat) : Option Tmp := (ops[j]?).bind (·.dst)
def nodupB : List Nat → Bool
 | [] => true
 | x :: r => !r.contains x && nodupB r
def zez : Nat → Nat → Nat → Bool
 | 0, _, _ => false
 | k + 1, t, j => (needs ops t).contains j || (needs ops t).any (fun x => decide (j < x) && zez k x j)
def rgOk (N : Nat) : Bool :=
 decide (m ≤ ops.size) && ((List.range m).filterMap (zaM ops)).all (fun t => decide (t < N)) && nodupB ((List.range m).filterMap (zaM ops)) &&
 (List.range ops.size).all (fun i => (needs ops i).all (fun j => decide (j < i))) &&
 (List.range ops.size).all (fun t => decide (t < m) || (List.range t).all (fun j => zez ops ops.size t j))
abbrev Env := List (Nat × (Value → World → Prop))
structure Seen (E : Env) (i : Nat) (a : Act) (w : World) : Prop where
 defers : a.defers = a0.defers
 size : a.tmps.size = a0.tmps.size
 outer : ∀ t, (∀ j, j < m → zaM ops j ≠ some t) → a.tmps[t]?.getD undef = a0.tmps[t]?.getD undef
 known : ∀ p ∈ E, p.1 ∈ needs ops i → ∃ v, (∀ t, zaM ops p.1 = some t → a.tmps[t]?.getD undef = v) ∧ p.2 v w
def Ob (E : Env) (i : Nat) (φ : Value → World → Prop) : Prop :=
 ∀ o, ops[i]? = some o → ∀ a w, ρ w0 w → Seen ops a0 m E i a w →
  if Region.wanted o (yielded ops a.tmps) = true then Oper.wp P o a w (fun a' w' => ∃ v, a' = a.put o.dst v ∧ ρ w w' ∧ φ v w') Q else φ undef w
def putL (vs : Nat → Value) : List Nat → Act → Act
 | [], a => a
 | j :: r, a => putL vs r (a.put (zaM ops j) (vs j))
def Fin (E : Env) : Prop := ∀ (vs : Nat → Value) (w : World), ρ w0 w → (∀ p ∈ E, p.2 (vs p.1) w) → wpOps P ops Q (List.range' m (ops.size - m)) (putL ops vs (List.range m) a0) w
def RG : Env → List Nat → Prop
 | E, [] => Fin P ops Q ρ a0 w0 m E
 | E, i :: r => ∃ φ : Value → World → Prop, (∀ v w w', ρ w w' → φ v w → φ v w') ∧ Ob P ops Q ρ a0 w0 m E i φ ∧ RG ((i, φ) :: E) r
end
section
variable {P : Program} {ops : Array Oper} {Q : Exit → Act → World → Prop} {ρ : World → World → Prop} {a0 : Act} {w0 : World} {m : Nat}
theorem RG.out : ∀ (l : List Nat) (E : Env), RG P ops Q ρ a0 w0 m E l →
  ∃ E' : Env, E'.map (·.1) = l.reverse ∧ (∀ p ∈ E', ∀ v w w', ρ w w' → p.2 v w → p.2 v w') ∧ (∀ p ∈ E', ∃ E1 : Env, (∀ q ∈ E1, q ∈ E' ++ E) ∧ Ob P ops Q ρ a0 w0 m E1 p.1 p.2) ∧ Fin P ops Q ρ a0 w0 m (E' ++ E)
 | [], E, h => ⟨[], rfl, fun _ h => by simp at h, fun _ h => by simp at h, h⟩
 | i :: r, E, ⟨φ, hs, ho, h⟩ => by
  obtain ⟨E', h1, h2, h3, h4⟩ := RG.out r ((i, φ) :: E) h
  have he : E' ++ (i, φ) :: E = (E' ++ [(i, φ)]) ++ E := by simp
  rw [he] at h4
  refine ⟨E' ++ [(i, φ)], by simp [h1], ?_, ?_, h4⟩
  ·
   intro p hp
   rcases List.mem_append.1 hp with hp | hp
   ·
    exact h2 p hp
   ·
    rw [List.mem_singleton.1 hp]; exact hs
  ·
   intro p hp
   rcases List.mem_append.1 hp with hp | hp
   ·
    obtain ⟨E1, hE, ho1⟩ := h3 p hp
    exact ⟨E1, fun q hq => by rw [← he]; exact hE q hq, ho1⟩
   ·
    rw [List.mem_singleton.1 hp]
    exact ⟨E, fun q hq => List.mem_append.2 (.inr hq), ho⟩
theorem zdx {S : Nat → Prop} (hS : ∀ x, S x → ∀ y ∈ needs ops x, S y) : ∀ (k t j : Nat), zez ops k t j = true → (∀ x ∈ needs ops t, S x) → S j
 | 0, _, _, h, _ => by simp [zez] at h
 | k + 1, t, j, h, ht => by
  simp only [zez, Bool.or_eq_true, List.any_eq_true, Bool.and_eq_true] at h
  rcases h with h | ⟨x, hx, _, h⟩
  ·
   exact ht j (by simpa using h)
  ·
   exact zdx hS k x j h (hS x (ht x hx))
theorem zdy {N : Nat} (h : rgOk ops m N = true) : m ≤ ops.size ∧ (∀ j, j < m → ∀ t, zaM ops j = some t → t < N) ∧ (∀ j k, j < m → k < m → ∀ t, zaM ops j = some t → zaM ops k = some t → j = k) ∧
  (∀ i j, j ∈ needs ops i → j < i) ∧ (∀ t, m ≤ t → t < ops.size → ∀ j, j < t → ∀ S : Nat → Prop, (∀ x, S x → ∀ y ∈ needs ops x, S y) → (∀ x ∈ needs ops t, S x) → S j) := by
 simp only [rgOk, Bool.and_eq_true, decide_eq_true_eq] at h
 obtain ⟨⟨⟨⟨h1, h2⟩, h3⟩, h4⟩, h5⟩ := h
 refine ⟨h1, ?_, ?_, ?_, ?_⟩
 ·
  intro j hj t ht
  have := List.all_eq_true.1 h2 t (List.mem_filterMap.2 ⟨j, List.mem_range.2 hj, ht⟩)
  simpa using this
 ·
  have key : ∀ (l : List Nat), l.Nodup → nodupB (l.filterMap (zaM ops)) = true → ∀ j k, j ∈ l → k ∈ l → ∀ t, zaM ops j = some t → zaM ops k = some t → j = k := by
   intro l
   induction l with
   | nil => intro _ _ j k hj; simp at hj
   | cons x r ih =>
    intro hn hb j k hj hk t htj htk
    have hn' := List.nodup_cons.1 hn
    cases hx : zaM ops x with
    | none =>
     simp only [List.filterMap_cons, hx] at hb
     rcases List.mem_cons.1 hj with rfl | hj
     ·
      rw [hx] at htj; cases htj
     rcases List.mem_cons.1 hk with rfl | hk
     ·
      rw [hx] at htk; cases htk
     exact ih hn'.2 hb j k hj hk t htj htk
    | some s =>
     simp only [List.filterMap_cons, hx, nodupB, Bool.and_eq_true, Bool.not_eq_true', List.contains_eq_mem, decide_eq_false_iff_not] at hb
     have hno : ∀ y, y ∈ r → zaM ops y ≠ some s := fun y hy hs => hb.1 (List.mem_filterMap.2 ⟨y, hy, hs⟩)
     rcases List.mem_cons.1 hj with hj0 | hj1
     ·
      rcases List.mem_cons.1 hk with hk0 | hk1
      ·
       rw [hj0, hk0]
      ·
       rw [hj0, hx] at htj; cases htj; exact absurd htk (hno k hk1)
     ·
      rcases List.mem_cons.1 hk with hk0 | hk1
      ·
       rw [hk0, hx] at htk; cases htk; exact absurd htj (hno j hj1)
      ·
       exact ih hn'.2 hb.2 j k hj1 hk1 t htj htk
  intro j k hj hk
  exact key (List.range m) List.nodup_range h3 j k (List.mem_range.2 hj) (List.mem_range.2 hk)
 ·
  intro i j hj
  by_cases hi : i < ops.size
  ·
   have h6 := List.all_eq_true.1 h4 i (List.mem_range.2 hi)
   simpa using List.all_eq_true.1 h6 j hj
  ·
   have : ops[i]? = none := Array.getElem?_eq_none o9
   simp [needs, this] at hj
 ·
  intro t hm ht j hj
  have h6 := List.all_eq_true.1 h5 t (List.mem_range.2 ht)
  simp only [Bool.or_eq_true, decide_eq_true_eq] at h6
  rcases h6 with h6 | h6
  ·
   exact absurd h6 o9
  ·
   intro S hS ht
   exact zdx hS _ _ _ (List.all_eq_true.1 h6 j (List.mem_range.2 hj)) ht
theorem zbR {listed : Array Bool} {i : Nat} (h : i ∈ Region.ready .any ops listed) : i < ops.size ∧ listed.getD i true = false ∧ ∀ j ∈ needs ops i, listed.getD j false = true := by
 obtain ⟨h1, o, ho, hall⟩ := mem_ready.1 h
 refine ⟨(Array.getElem?_eq_some_iff.1 ho).1, h1, ?_⟩
 intro j hj
 simp only [needs, ho] at hj
 obtain ⟨e, he, rfl⟩ := List.mem_map.1 hj
 obtain ⟨he1, he2⟩ := List.mem_filter.1 he
 exact hall e (by simpa using he1) he2
theorem zb5 {listed : Array Bool} {i : Nat} (hi : i < ops.size) (h1 : listed.getD i true = false) (h : ∀ j ∈ needs ops i, listed.getD j false = true) : i ∈ Region.ready .any ops listed := by
 refine mem_ready.2 ⟨h1, ops[i], by simp [hi], fun e he hb => h _ ?_⟩
 simp only [needs, Array.getElem?_eq_getElem hi]
 exact List.mem_map.2 ⟨e, List.mem_filter.2 ⟨by simpa using he, hb⟩, rfl⟩
theorem zeb {N : Nat} (hok : rgOk ops m N = true) : ∀ (k t : Nat) (listed : Array Bool) (a : Act) (w : World), t + k = ops.size → m ≤ t → listed.size = ops.size → (∀ j, j < ops.size → listed.getD j false = decide (j < t)) →
  wpOps P ops Q (List.range' t k) a w → wpAny P .any ops Q k listed a w := by
 obtain ⟨_, _, _, hlt, htl⟩ := zdy hok
 intro k
 induction k with
 | zero =>
  intro t listed a w ht _ hsz hl h
  refine ⟨?_, by simpa [wpOps] using h⟩
  refine List.eq_nil_iff_forall_not_mem.2 fun i hi => ?_
  obtain ⟨hi1, hi2, _⟩ := zbR hi
  have := hl i hi1
  rw [Array.getD_eq_getD_getElem?, Array.getElem?_eq_getElem o9] at hi2 this
  simp only [Option.getD_some] at hi2 this
  rw [hi2] at this
  have : ¬ i < t := by simpa using this.symm
  omega
 | succ k ih =>
  intro t listed a w ht hm hsz hl h
  have htn : t < ops.size := by omega
  have hun : listed.getD t true = false := by
   have := hl t htn
   rw [Array.getD_eq_getD_getElem?, Array.getElem?_eq_getElem o9] at this ⊢
   simpa using this
  have hrd : t ∈ Region.ready .any ops listed := zb5 htn hun fun j hj => by
   have := hlt t j hj
   rw [hl j o9]; simpa using this
  refine ⟨fun h0 => by rw [h0] at hrd; simp at hrd, fun i hi => ?_⟩
  obtain ⟨hi1, hi2, hi3⟩ := zbR hi
  have hit : t ≤ i := by
   rcases Nat.lt_or_ge i t with hc | hc
   ·
    have := hl i hi1
    rw [Array.getD_eq_getD_getElem?, Array.getElem?_eq_getElem o9] at hi2 this
    simp only [Option.getD_some] at hi2 this
    rw [hi2] at this
    simp at this
    omega
   ·
    exact hc
  have hie : i = t := by
   rcases Nat.lt_or_ge t i with hc | hc
   ·
    have h6 := htl i o9 hi1 t hc (fun x => listed.getD x false = true) (fun x hx y hy => by
     have hxs : x < ops.size := by
      rcases Nat.lt_or_ge x ops.size with h | h
      ·
       exact h
      ·
       rw [Array.getD_eq_getD_getElem?, Array.getElem?_eq_none o9] at hx; cases hx
     have h1 := hlt x y hy
     have h2 : x < t := by rw [hl x hxs] at hx; simpa using hx
     rw [hl y o9]; simpa using Nat.lt_trans h1 h2) hi3
    rw [hl t htn] at h6
    simp at h6
   ·
    omega
  subst hie
  have h' : wpOps P ops Q (i :: List.range' (i + 1) k) a w := by simpa [List.range'_succ] using h
  rw [wpOps_cons] at h'
  refine wpOp_mono (fun a' w' hh => ih (i + 1) (listed.setIfInBounds i true) a' w' o9 o9 (by simpa using hsz) (fun j hj => ?_) hh) h'
  by_cases hji : i = j
  ·
   subst hji; rw [Array.getD_eq_getD_getElem?]; simp [hsz, hj]
  ·
   have := hl j hj
   rw [Array.getD_eq_getD_getElem?] at this ⊢
   rw [Array.getElem?_setIfInBounds_ne hji, this]
   simp only [decide_eq_decide]
   omega
theorem zcY (a : Act) (d : Option Tmp) (v : Value) : (a.put d v).tmps.size = a.tmps.size := by cases d <;> simp [Act.put]
theorem put_defers (a : Act) (d : Option Tmp) (v : Value) : (a.put d v).defers = a.defers := by cases d <;> rfl
theorem zdq {a : Act} {t : Tmp} {v : Value} (h : t < a.tmps.size) : (a.put (some t) v).tmps[t]?.getD undef = v := by simp [Act.put, h]
theorem zb8 {a : Act} {d : Option Tmp} {t : Tmp} {v : Value} (h : d ≠ some t) : (a.put d v).tmps[t]?.getD undef = a.tmps[t]?.getD undef := by
 cases d with
 | none => rfl
 | some s => simp only [Act.put]; rw [Array.getElem?_setIfInBounds_ne (fun e => h (by rw [e]))]
theorem zb7 (vs : Nat → Value) : ∀ (l : List Nat) (a : Act), (putL ops vs l a).tmps.size = a.tmps.size
 | [], _ => rfl
 | j :: r, a => by rw [putL, zb7 vs r, zcY]
theorem zbQ (vs : Nat → Value) : ∀ (l : List Nat) (a : Act), (putL ops vs l a).defers = a.defers
 | [], _ => rfl
 | j :: r, a => by rw [putL, zbQ vs r, put_defers]
theorem zbT (vs : Nat → Value) {t : Tmp} : ∀ (l : List Nat) (a : Act), (∀ j ∈ l, zaM ops j ≠ some t) → (putL ops vs l a).tmps[t]?.getD undef = a.tmps[t]?.getD undef
 | [], _, _ => rfl
 | j :: r, a, h => by rw [putL, zbT vs r _ (fun k hk => h k (List.mem_cons_of_mem _ hk)), zb8 (h j List.mem_cons_self)]
theorem zcS (vs : Nat → Value) {t : Tmp} {j : Nat} : ∀ (l : List Nat) (a : Act), j ∈ l → zaM ops j = some t → t < a.tmps.size → (∀ k ∈ l, zaM ops k = some t → k = j) → (putL ops vs l a).tmps[t]?.getD undef = vs j
 | [], _, h, _, _, _ => by simp at h
 | x :: r, a, h, ht, hs, hu => by
  rw [putL]
  by_cases hj : j ∈ r
  ·
   exact zcS vs r _ hj ht (by rw [zcY]; exact hs) (fun k hk => hu k (List.mem_cons_of_mem _ hk))
  ·
   have hx : x = j := by rcases List.mem_cons.1 h with h | h; exact h.symm; exact absurd h hj
   subst hx
   rw [zbT vs r _ (fun k hk hkt => hj (by rw [← hu k (List.mem_cons_of_mem _ hk) hkt]; exact hk)), ht, zdq hs]
theorem zde {a b : Act} (hd : a.defers = b.defers) (hs : a.tmps.size = b.tmps.size) (h : ∀ t, t < a.tmps.size → a.tmps[t]?.getD undef = b.tmps[t]?.getD undef) : a = b := by
 obtain ⟨ta, da⟩ := a
 obtain ⟨tb, db⟩ := b
 simp only at hd hs h
 subst hd
 congr 1
 refine Array.ext hs fun i h1 h2 => ?_
 have := h i h1
 simpa [h1, h2] using this
theorem zdz {β : Type} : ∀ (E : List (Nat × β)), (E.map (·.1)).Nodup → ∀ p ∈ E, ∀ q ∈ E, p.1 = q.1 → p = q
 | [], _, p, hp, _, _, _ => by simp at hp
 | x :: r, hn, p, hp, q, hq, he => by
  rw [List.map_cons, List.nodup_cons] at hn
  rcases List.mem_cons.1 hp with hp0 | hp
  ·
   rcases List.mem_cons.1 hq with hq0 | hq
   ·
    rw [hp0, hq0]
   ·
    exact absurd (List.mem_map.2 ⟨q, hq, by rw [← he, hp0]⟩) hn.1
  ·
   rcases List.mem_cons.1 hq with hq0 | hq
   ·
    exact absurd (List.mem_map.2 ⟨p, hp, by rw [he, hq0]⟩) hn.1
   ·
    exact zdz r hn.2 p hp q hq he
theorem zgV {N : Nat} (hok : rgOk ops m N = true) (hN : a0.tmps.size = N) (hrefl : ∀ w, ρ w w) (htrans : ∀ {A B C}, ρ A B → ρ B C → ρ A C) (h : RG P ops Q ρ a0 w0 m [] (List.range m)) :
  wpAny P .any ops Q ops.size (Array.replicate ops.size false) a0 w0 := by
 obtain ⟨hm, hsl, hun, hlt, htl⟩ := zdy hok
 obtain ⟨E, hE, hst, hob, hfin⟩ := RG.out _ _ h
 rw [List.append_nil] at hfin
 have hEm : ∀ i, i < m → ∃ φ, (i, φ) ∈ E := fun i hi => by
  have : i ∈ E.map (·.1) := by rw [hE]; simpa using hi
  obtain ⟨p, hp, rfl⟩ := List.mem_map.1 this
  exact ⟨p.2, hp⟩
 have hEl : ∀ p ∈ E, p.1 < m := fun p hp => by
  have : p.1 ∈ E.map (·.1) := List.mem_map.2 ⟨p, hp, rfl⟩
  rw [hE] at this; simpa using this
 have hEu : ∀ p ∈ E, ∀ q ∈ E, p.1 = q.1 → p = q := by
  have hn : (E.map (·.1)).Nodup := by rw [hE]; exact List.pairwise_reverse.2 ((List.nodup_range (n := m)).imp (fun h => h.symm))
  intro p hp q hq he
  exact zdz E hn p hp q hq he
 have key : ∀ (fuel : Nat) (listed : Array Bool) (vs : Nat → Value) (a : Act) (w : World), listed.size = ops.size → fuel + (List.range ops.size).countP (fun j => listed.getD j false) = ops.size →
   (∀ j, m ≤ j → j < ops.size → listed.getD j false = false) → ρ w0 w → a.defers = a0.defers → a.tmps.size = a0.tmps.size →
   (∀ j, j < m → listed.getD j false = true → ∀ t, zaM ops j = some t → a.tmps[t]?.getD undef = vs j) →
   (∀ t, (∀ j, j < m → listed.getD j false = true → zaM ops j ≠ some t) → a.tmps[t]?.getD undef = a0.tmps[t]?.getD undef) →
   (∀ p ∈ E, listed.getD p.1 false = true → p.2 (vs p.1) w) → (∀ x, listed.getD x false = true → ∀ y ∈ needs ops x, listed.getD y false = true) → wpAny P .any ops Q fuel listed a w := by
  intro fuel
  induction fuel with
  | zero =>
   intro listed vs a w hsz hc hno hρ hd hs hin hout hfact hcl
   have hall : ∀ j, j < ops.size → listed.getD j false = true := by
    have := List.countP_eq_length (p := fun j => listed.getD j false) (l := List.range ops.size)
    have h2 := this.1 (by simpa using hc)
    exact fun j hj => h2 j (List.mem_range.2 hj)
   have hmn : m = ops.size := by
    rcases Nat.lt_or_ge m ops.size with hc' | hc'
    ·
     have := hno m (Nat.le_refl _) hc'
     rw [hall m hc'] at this; cases this
    ·
     omega
   have ha : a = putL ops vs (List.range m) a0 := by
    refine zde (by rw [zbQ, hd]) (by rw [zb7, hs]) fun t ht => ?_
    by_cases hx : ∃ j, j < m ∧ zaM ops j = some t
    ·
     obtain ⟨j, hj, hjt⟩ := hx
     rw [hin j hj (hall j o9) t hjt, zcS vs _ _ (List.mem_range.2 hj) hjt (by rw [← hs]; exact ht) (fun k hk hkt => hun k j (List.mem_range.1 hk) hj t hkt hjt)]
    ·
     rw [hout t (fun j hj _ e => hx ⟨j, hj, e⟩), zbT vs _ _ (fun j hj e => hx ⟨j, List.mem_range.1 hj, e⟩)]
   have hf := hfin vs w hρ (fun p hp => hfact p hp (hall _ (by have := hEl p hp; omega)))
   rw [← ha] at hf
   refine zeb hok 0 ops.size listed a w rfl hm hsz (fun j hj => by rw [hall j hj]; simpa using hj) ?_
   have : ops.size - m = 0 := by omega
   rw [this] at hf
   simpa [wpOps] using hf
  | succ fuel ih =>
   intro listed vs a w hsz hc hno hρ hd hs hin hout hfact hcl
   by_cases hall : ∀ j, j < m → listed.getD j false = true
   ·
    -- the tail begins
    have ha : a = putL ops vs (List.range m) a0 := by
     refine zde (by rw [zbQ, hd]) (by rw [zb7, hs]) fun t ht => ?_
     by_cases hx : ∃ j, j < m ∧ zaM ops j = some t
     ·
      obtain ⟨j, hj, hjt⟩ := hx
      rw [hin j hj (hall j hj) t hjt, zcS vs _ _ (List.mem_range.2 hj) hjt (by rw [← hs]; exact ht) (fun k hk hkt => hun k j (List.mem_range.1 hk) hj t hkt hjt)]
     ·
      rw [hout t (fun j hj _ e => hx ⟨j, hj, e⟩), zbT vs _ _ (fun j hj e => hx ⟨j, List.mem_range.1 hj, e⟩)]
    have hf := hfin vs w hρ (fun p hp => hfact p hp (hall _ (hEl p hp)))
    rw [← ha] at hf
    have hcm : (List.range ops.size).countP (fun j => listed.getD j false) = m := by
     have h1 : ∀ (k n : Nat), n = m + k → n ≤ ops.size → (List.range n).countP (fun j => listed.getD j false) = m := by
      intro k
      induction k with
      | zero =>
       intro n hn hle
       have := (List.countP_eq_length (p := fun j => listed.getD j false) (l := List.range n)).2 (fun j hj => hall j (by have := List.mem_range.1 hj; omega))
       simpa [hn] using this
      | succ k ihk =>
       intro n hn hle
       obtain ⟨n', rfl⟩ : ∃ n', n = n' + 1 := ⟨n - 1, by omega⟩
       rw [List.range_succ, List.countP_append, ihk n' o9 o9]
       simp only [List.countP_singleton, hno n' o9 o9]
       simp
     exact h1 (ops.size - m) ops.size o9 (Nat.le_refl _)
    have hk : fuel + 1 = ops.size - m := by omega
    rw [hk]
    rw [← hk] at hf
    refine hk ▸ zeb hok (fuel + 1) m listed a w o9 (Nat.le_refl _) hsz (fun j hj => ?_) hf
    by_cases hjm : j < m
    ·
     rw [hall j hjm]; simpa using hjm
    ·
     rw [hno j o9 hj]; simpa using hjm
   ·
    refine ⟨fun h0 => ?_, fun i hi => ?_⟩
    ·
     -- the first one that has not come up may come up
     have hex : ∃ j, j < m ∧ listed.getD j false = false := by
      refine Classical.byContradiction fun hno' => hall fun j hj => ?_
      cases hb : listed.getD j false with
      | true => rfl
      | false => exact absurd ⟨j, hj, hb⟩ hno'
     have hmin : ∃ j, j < m ∧ listed.getD j false = false ∧ ∀ k, k < j → listed.getD k false = true := by
      obtain ⟨j, hj, hb⟩ := hex
      induction j using Nat.strongRecOn with
      | _ j ihj =>
       by_cases hk : ∀ k, k < j → listed.getD k false = true
       ·
        exact ⟨j, hj, hb, hk⟩
       ·
        obtain ⟨k, hk⟩ := Classical.not_forall.1 hk
        obtain ⟨hkj, hkb⟩ := Classical.not_imp.1 hk
        exact ihj k hkj o9 (by simpa using hkb)
     obtain ⟨j, hj, hb, hk⟩ := hmin
     have : j ∈ Region.ready .any ops listed := zb5 o9 (by
      rw [Array.getD_eq_getD_getElem?, Array.getElem?_eq_getElem o9] at hb ⊢; simpa using hb) (fun k hk' => hk k (hlt j k hk'))
     rw [h0] at this; simp at this
    ·
     obtain ⟨hi1, hi2, hi3⟩ := zbR hi
     have him : i < m := by
      rcases Nat.lt_or_ge i m with hc' | hc'
      ·
       exact hc'
      ·
       exact absurd (fun j (hj : j < m) => htl i hc' hi1 j o9 (fun x => listed.getD x false = true) hcl hi3) hall
     obtain ⟨φ, hφ⟩ := hEm i him
     obtain ⟨E1, hE1, ho⟩ := hob _ hφ
     have hoi : ops[i]? = some ops[i] := Array.getElem?_eq_getElem hi1
     have hseen : Seen ops a0 m E1 i a w := by
      refine ⟨hd, hs, fun t ht => hout t (fun j hj _ => ht j hj), fun p hp hpn => ?_⟩
      have hpE : p ∈ E := by simpa using hE1 p hp
      exact ⟨vs p.1, fun t ht => hin p.1 (hEl p hpE) (hi3 _ hpn) t ht, hfact p hpE (hi3 _ hpn)⟩
     have h1 := ho _ hoi a w hρ hseen
     have hL : ∀ j, (listed.setIfInBounds i true).getD j false = if j = i then true else listed.getD j false := fun j => by
      by_cases hji : j = i
      ·
       subst hji; rw [Array.getD_eq_getD_getElem?]; simp [hsz, hi1]
      ·
       rw [Array.getD_eq_getD_getElem?, Array.getElem?_setIfInBounds_ne (Ne.symm hji), Array.getD_eq_getD_getElem?, if_neg hji]
     have hib : listed.getD i false = false := by
      rw [Array.getD_eq_getD_getElem?, Array.getElem?_eq_getElem o9] at hi2 ⊢; simpa using hi2
     have hcount : fuel + (List.range ops.size).countP (fun j => (listed.setIfInBounds i true).getD j false) = ops.size := by
      have h2 : ∀ n, n ≤ ops.size → (List.range n).countP (fun j => (listed.setIfInBounds i true).getD j false) = (List.range n).countP (fun j => listed.getD j false) + if i < n then 1 else 0 := by
       intro n
       induction n with
       | zero => intro _; simp
       | succ n ihn =>
        intro hn
        rw [List.range_succ, List.countP_append, List.countP_append, ihn o9]
        simp only [List.countP_singleton, hL]
        by_cases hni : n = i
        ·
         subst hni; simp [hib]
        ·
         rw [if_neg hni]
         by_cases h3 : i < n
         ·
          rw [if_pos h3, if_pos (show i < n + 1 by omega)]; omega
         ·
          rw [if_neg h3, if_neg (show ¬ i < n + 1 by omega)]; omega
      rw [h2 _ (Nat.le_refl _), if_pos hi1]; omega
     have go : ∀ (v : Value) (w' : World), ρ w w' → φ v w' → wpAny P .any ops Q fuel (listed.setIfInBounds i true) (a.put (zaM ops i) v) w' := by
      intro v w' hw' hv
      have hne : ∀ j, j < m → j ≠ i → ∀ t, zaM ops j = some t → zaM ops i ≠ some t := fun j hj hji t hjt hit => hji (hun j i hj him t hjt hit)
      refine ih (listed.setIfInBounds i true) (fun j => if j = i then v else vs j) _ _ (by simpa using hsz) hcount ?_ (htrans hρ hw') (by rw [put_defers, hd]) (by rw [zcY, hs]) ?_ ?_ ?_ ?_
      ·
       intro j hj hjn
       rw [hL, if_neg o9]; exact hno j hj hjn
      ·
       intro j hj hb t hjt
       rw [hL] at hb
       by_cases hji : j = i
       ·
        subst hji
        rw [if_pos rfl, hjt, zdq (Nat.lt_of_lt_of_le (hsl j hj t hjt) o9)]
       ·
        rw [if_neg hji] at hb ⊢
        rw [zb8 (hne j hj hji t hjt)]
        exact hin j hj hb t hjt
      ·
       intro t ht
       have hi' := ht i him (by rw [hL, if_pos rfl])
       rw [zb8 hi']
       refine hout t fun j hj hb => ?_
       by_cases hji : j = i
       ·
        subst hji; exact hi'
       ·
        exact ht j hj (by rw [hL, if_neg hji]; exact hb)
      ·
       intro p hp hb
       rw [hL] at hb
       by_cases hpi : p.1 = i
       ·
        have : p = (i, φ) := hEu p hp _ hφ hpi
        subst this
        simpa using hv
       ·
        rw [if_neg hpi] at hb ⊢
        exact hst p hp _ _ _ hw' (hfact p hp hb)
      ·
       intro x hx y hy
       rw [hL] at hx ⊢
       by_cases hyi : y = i
       ·
        rw [if_pos hyi]
       ·
        rw [if_neg hyi]
        by_cases hxi : x = i
        ·
         subst hxi; exact hi3 y hy
        ·
         rw [if_neg hxi] at hx; exact hcl x hx y hy
     have hso : zaM ops i = ops[i].dst := by simp [zaM, hoi]
     unfold wpOp
     simp only [hoi]
     by_cases hw : Region.wanted ops[i] (yielded ops a.tmps) = true
     ·
      rw [if_pos hw] at h1 ⊢
      refine .inl (Oper.wp_mono (fun a' w' hh => ?_) h1)
      obtain ⟨v, rfl, hw', hv⟩ := hh
      rw [← hso]
      exact go v w' hw' hv
     ·
      rw [if_neg hw] at h1 ⊢
      rw [← hso]
      exact go undef w (hrefl w) h1
 have h0 : ∀ j, (Array.replicate ops.size false).getD j false = false := fun j => by
  rw [Array.getD_eq_getD_getElem?]
  by_cases hj : j < ops.size
  ·
   rw [Array.getElem?_eq_getElem (by simpa using hj)]; simp
  ·
   rw [Array.getElem?_eq_none (by simpa using Nat.le_of_not_lt hj)]; rfl
 refine key ops.size _ (fun _ => undef) a0 w0 s9 ?_ (fun j _ _ => h0 j) (hrefl w0) rfl rfl (fun j _ hb => by rw [h0] at hb; cases hb) (fun _ _ => rfl) (fun p _ hb => by rw [h0] at hb; cases hb) (fun x hx => by rw [h0] at hx; cases hx)
 have : (List.range ops.size).countP (fun j => (Array.replicate ops.size false).getD j false) = 0 := List.countP_eq_zero.2 fun j _ => by rw [h0]; simp
 omega
theorem zbq {id N : Nat} {a : Act} {w : World} (m : Nat) (ρ : World → World → Prop) (hm : P.follows .mixedOrders = true) (hok : rgOk ops m N = true) (hN : a.tmps.size = N) (hrefl : ∀ w, ρ w w) (htrans : ∀ {A B C}, ρ A B → ρ B C → ρ A C)
  (h : RG P ops Q ρ a w.drew m [] (List.range m)) : (Code.region id ops true).wp P Q a w :=
 wp_region_any hm (zgV hok hN hrefl htrans h)
theorem zcV {id N n : Nat} {r : Option Nat} {a : Act} {w : World} (m : Nat) (ρ : World → World → Prop) (hm : P.follows .mixedOrders = true) (hok : rgOk ops m N = true) (hd : zeK ops = true) (hQ : ∀ a w, ¬ Q .outgrown a w) (hN : a.tmps.size = N) (hrefl : ∀ w, ρ w w) (htrans : ∀ {A B C}, ρ A B → ρ B C → ρ A C)
  (h : RG P ops Q ρ a w.drew m [] (List.range m)) : (Code.region id ops true).wpIn { Fence.wide with round := r } n P Q a w := by
 refine wpIn_region_draw fun t => zds hd hQ _ _ _ ?_
 simp only [Region.schedule, hm, Bool.true_or, if_true]
 exact wpAny_sound ops.size t _ a _ (zgV hok hN hrefl htrans h)
theorem rg_op {E : Env} {i : Nat} {r : List Nat} (φ : Value → World → Prop) (hs : ∀ v w w', ρ w w' → φ v w → φ v w') (ho : Ob P ops Q ρ a0 w0 m E i φ) (h : RG P ops Q ρ a0 w0 m ((i, φ) :: E) r) : RG P ops Q ρ a0 w0 m E (i :: r) := ⟨φ, hs, ho, h⟩
theorem zbl {E : Env} {i : Nat} {r : List Nat} {o : Oper} (v : Value) (hrefl : ∀ w, ρ w w) (hi : ops[i]? = some o)
  (hw : ∀ a w, ρ w0 w → Seen ops a0 m E i a w → Region.wanted o (yielded ops a.tmps) = true)
  (hr : ∀ a w, ρ w0 w → Seen ops a0 m E i a w → (execOp a.eval o).run P w = .ok (.value v) w) (h : RG P ops Q ρ a0 w0 m ((i, fun x _ => x = v) :: E) r) : RG P ops Q ρ a0 w0 m E (i :: r) := by
 refine rg_op _ (fun _ _ _ _ h => h) (fun o' ho' a w hρ hse => ?_) h
 obtain rfl : o = o' := Option.some.inj (hi.symm.trans ho')
 rw [if_pos (hw a w hρ hse)]
 unfold Oper.wp
 rw [hr a w hρ hse]
 exact ⟨v, rfl, hrefl w, rfl⟩
theorem zby {E : Env} {i : Nat} {r : List Nat} {o : Oper} (hi : ops[i]? = some o)
  (hw : ∀ a w, ρ w0 w → Seen ops a0 m E i a w → Region.wanted o (yielded ops a.tmps) = false) (h : RG P ops Q ρ a0 w0 m ((i, fun x _ => x = undef) :: E) r) : RG P ops Q ρ a0 w0 m E (i :: r) := by
 refine rg_op _ (fun _ _ _ _ h => h) (fun o' ho' a w hρ hse => ?_) h
 obtain rfl : o = o' := Option.some.inj (hi.symm.trans ho')
 rw [hw a w hρ hse, if_neg s9]
theorem zgP {E : Env} {i : Nat} {r : List Nat} {o : Oper} (φ : Value → World → Prop) (hs : ∀ v w w', ρ w w' → φ v w → φ v w') (hi : ops[i]? = some o)
  (hw : ∀ a w, ρ w0 w → Seen ops a0 m E i a w → Region.wanted o (yielded ops a.tmps) = true)
  (hr : ∀ a w, ρ w0 w → Seen ops a0 m E i a w → ∃ v w', (execOp a.eval o).run P w = .ok (.value v) w' ∧ ρ w w' ∧ φ v w') (h : RG P ops Q ρ a0 w0 m ((i, φ) :: E) r) : RG P ops Q ρ a0 w0 m E (i :: r) := by
 refine rg_op φ hs (fun o' ho' a w hρ hse => ?_) h
 obtain rfl : o = o' := Option.some.inj (hi.symm.trans ho')
 rw [if_pos (hw a w hρ hse)]
 obtain ⟨v, w', h1, h2, h3⟩ := hr a w hρ hse
 unfold Oper.wp
 rw [h1]
 exact ⟨v, rfl, h2, h3⟩
theorem zhi {E : Env} {i : Nat} {r : List Nat} {o : Oper} (φ : World → Prop) (hs : ∀ w w', ρ w w' → φ w → φ w') (hi : ops[i]? = some o)
  (hw : ∀ a w, ρ w0 w → Seen ops a0 m E i a w → Region.wanted o (yielded ops a.tmps) = true)
  (hr : ∀ a w, ρ w0 w → Seen ops a0 m E i a w → ∃ w', (execOp a.eval o).run P w = .ok .skip w' ∧ ρ w w' ∧ φ w') (h : RG P ops Q ρ a0 w0 m ((i, fun _ => φ) :: E) r) : RG P ops Q ρ a0 w0 m E (i :: r) := by
 refine rg_op (fun _ => φ) (fun _ => hs) (fun o' ho' a w hρ hse => ?_) h
 obtain rfl : o = o' := Option.some.inj (hi.symm.trans ho')
 rw [if_pos (hw a w hρ hse)]
 obtain ⟨w', h1, h2, h3⟩ := hr a w hρ hse
 unfold Oper.wp
 rw [h1]
 exact ⟨undef, rfl, h2, h3⟩
theorem zdN {E : Env} {i : Nat} {r : List Nat} {o : Oper} {f : FuncId} {fn : Func} {xs : Array Operand} {ts : Array TypeId} (φ : Value → World → Prop) (hs : ∀ v w w', ρ w w' → φ v w → φ v w') (hi : ops[i]? = some o)
  (hop : o.op = .call { callee := .value (.func f), args := xs, argTypes := ts }) (hf : P.funcs[f]? = some fn) (hname : (fn.name == "runtime.NumGoroutine") = false) (hb : fn.body.isSome = true)
  (hw : ∀ a w, ρ w0 w → Seen ops a0 m E i a w → Region.wanted o (yielded ops a.tmps) = true)
  (hr : ∀ a w, ρ w0 w → Seen ops a0 m E i a w → Calls P f (xs.map a.eval) w fun e w' => ∃ v, e = .returned v ∧ ρ w w' ∧ φ v w') (h : RG P ops Q ρ a0 w0 m ((i, φ) :: E) r) : RG P ops Q ρ a0 w0 m E (i :: r) := by
 refine rg_op φ hs (fun o' ho' a w hρ hse => ?_) h
 obtain rfl : o = o' := Option.some.inj (hi.symm.trans ho')
 have h1 := call_ (ops := ops) (Q := Q) (oi := o) (N := o.dst) (a := a) (w := w) (K := fun a' w' => ∃ v, a' = a.put o.dst v ∧ ρ w w' ∧ φ v w') f (xs.map a.eval) (hw a w hρ hse) rfl (by
  have he := zcA hf hname hb (xs.map a.eval) w
  unfold execOp
  simp [hop, resolve, Deferred.ofValue, invoke, Act.eval, he]) ((hr a w hρ hse).mono fun e w' ⟨v, hv, h2, h3⟩ => ⟨v, hv, v, rfl, h2, h3⟩)
 rw [if_pos (hw a w hρ hse)] at h1 ⊢
 exact h1
theorem Seen.get {E : Env} {i : Nat} {a : Act} {w : World} (h : Seen ops a0 m E i a w) (k : Nat) {p : Nat × (Value → World → Prop)} (hk : E[k]? = some p) (hn : (needs ops i).contains p.1 = true) {t : Tmp} (ht : zaM ops p.1 = some t) : p.2 (a.tmps[t]?.getD undef) w := by
 obtain ⟨v, h1, h2⟩ := h.known p (List.mem_of_getElem? hk) (by simpa using hn)
 rw [h1 t ht]; exact h2
theorem Seen.out {E : Env} {i : Nat} {a : Act} {w : World} (h : Seen ops a0 m E i a w) (t : Tmp) (ht : (((List.range m).filterMap (zaM ops)).contains t) = false) : a.tmps[t]?.getD undef = a0.tmps[t]?.getD undef :=
 h.outer t fun j hj e => by
  have : t ∈ (List.range m).filterMap (zaM ops) := List.mem_filterMap.2 ⟨j, List.mem_range.2 hj, e⟩
  simp [this] at ht
theorem zax {o : Oper} {f : Nat → Option Bool} (h : o.guard = none) : Region.wanted o f = true := by simp [Region.wanted, h]
theorem zdW {a : Act} {g : Nat} {t : Tmp} {b : Bool} (hs : zaM ops g = some t) (h : a.tmps[t]?.getD undef = .bool b) : yielded ops a.tmps g = some b := by
 have hs' : (ops[g]?).bind (·.dst) = some t := hs
 unfold yielded
 rw [hs']
 cases ht : a.tmps[t]? with
 | none => rw [ht] at h; cases h
 | some v => rw [ht] at h; simp only [Option.getD_some] at h; simp [ht, h]
theorem za2 {o : Oper} {a : Act} {g : Nat} {t : Tmp} {b : Bool} (ho : o.guard = some (g, b)) (hs : zaM ops g = some t) (h : a.tmps[t]?.getD undef = .bool b) : Region.wanted o (yielded ops a.tmps) = true := by
 simp [Region.wanted, ho, zdW hs h]
theorem za3 {o : Oper} {a : Act} {g : Nat} {t : Tmp} {b b' : Bool} (ho : o.guard = some (g, b)) (hs : zaM ops g = some t) (h : a.tmps[t]?.getD undef = .bool b') : Region.wanted o (yielded ops a.tmps) = (b' == b) := by
 simp [Region.wanted, ho, zdW hs h]
theorem zgB {i : Nat} {r : List Nat} {o : Oper} {a : Act} {w w' : World} (v : Value) (hi : ops[i]? = some o) (hw : Region.wanted o (yielded ops a.tmps) = true) (hr : (execOp a.eval o).run P w = .ok (.value v) w')
  (h : wpOps P ops Q r (a.put o.dst v) w') : wpOps P ops Q (i :: r) a w := by
 rw [wpOps_cons]
 unfold wpOp
 simp only [hi, hw, if_true]
 refine .inl ?_
 unfold Oper.wp
 rw [hr]
 exact h
theorem zbY {i : Nat} {r : List Nat} {o : Oper} {a : Act} {w w' : World} (hi : ops[i]? = some o) (hw : Region.wanted o (yielded ops a.tmps) = true) (hr : (execOp a.eval o).run P w = .ok .skip w')
  (h : wpOps P ops Q r (a.put o.dst undef) w') : wpOps P ops Q (i :: r) a w := by
 rw [wpOps_cons]
 unfold wpOp
 simp only [hi, hw, if_true]
 refine .inl ?_
 unfold Oper.wp
 rw [hr]
 exact h
theorem zbd {a : Act} {w : World} (h : Q .normal a w) : wpOps P ops Q [] a w := by simpa [wpOps] using h
end
def Grows (A B : World) : Prop := Below A.heap.size A B
theorem Grows.refl (w : World) : Grows w w := Below.refl _ _
theorem Grows.trans {A B C : World} (h1 : Grows A B) (h2 : Grows B C) : Grows A C := Below.trans h1 (h2.mono h1.size)
section
variable {P : Program} {ops : Array Oper} {Q : Exit → Act → World → Prop} {a0 : Act} {w0 : World} {m : Nat}
end
section
variable {P : Program} {ops : Array Oper} {Q : Exit → Act → World → Prop} {ρ : World → World → Prop} {a0 : Act} {w0 : World} {m : Nat}
def rgOkT (ops : Array Oper) (m N : Nat) : Bool :=
 decide (m ≤ ops.size) && ((List.range m).filterMap (zaM ops)).all (fun t => decide (t < N)) && nodupB ((List.range m).filterMap (zaM ops))
theorem zf6 {ops : Array Oper} : ∀ (l : List Nat), l.Nodup → nodupB (l.filterMap (zaM ops)) = true → ∀ j k, j ∈ l → k ∈ l → ∀ t, zaM ops j = some t → zaM ops k = some t → j = k := by
 intro l
 induction l with
 | nil => intro _ _ j k hj; simp at hj
 | cons x r ih =>
  intro hn hb j k hj hk t htj htk
  have hn' := List.nodup_cons.1 hn
  cases hx : zaM ops x with
  | none =>
   simp only [List.filterMap_cons, hx] at hb
   rcases List.mem_cons.1 hj with rfl | hj
   ·
    rw [hx] at htj; cases htj
   rcases List.mem_cons.1 hk with rfl | hk
   ·
    rw [hx] at htk; cases htk
   exact ih hn'.2 hb j k hj hk t htj htk
  | some s =>
   simp only [List.filterMap_cons, hx, nodupB, Bool.and_eq_true, Bool.not_eq_true', List.contains_eq_mem, decide_eq_false_iff_not] at hb
   have hno : ∀ y, y ∈ r → zaM ops y ≠ some s := fun y hy hs => hb.1 (List.mem_filterMap.2 ⟨y, hy, hs⟩)
   rcases List.mem_cons.1 hj with hj0 | hj1
   ·
    rcases List.mem_cons.1 hk with hk0 | hk1
    ·
     rw [hj0, hk0]
    ·
     rw [hj0, hx] at htj; cases htj; exact absurd htk (hno k hk1)
   ·
    rcases List.mem_cons.1 hk with hk0 | hk1
    ·
     rw [hk0, hx] at htk; cases htk; exact absurd htj (hno j hj1)
    ·
     exact ih hn'.2 hb.2 j k hj1 hk1 t htj htk
theorem zg5 {E : Env} {i : Nat} {r : List Nat} {o : Oper} (φ : Value → World → Prop) (hs : ∀ v w w', ρ w w' → φ v w → φ v w') (hrefl : ∀ w, ρ w w) (hi : ops[i]? = some o)
  (hw : ∀ a w, ρ w0 w → Seen ops a0 m E i a w → Region.wanted o (yielded ops a.tmps) = true)
  (hr : ∀ a w, ρ w0 w → Seen ops a0 m E i a w → ∃ v, (execOp a.eval o).run P w = .ok (.value v) w ∧ φ v w) (h : RG P ops Q ρ a0 w0 m ((i, φ) :: E) r) : RG P ops Q ρ a0 w0 m E (i :: r) :=
 zgP φ hs hi hw (fun a w hρ hse => let ⟨v, h1, h2⟩ := hr a w hρ hse; ⟨v, w, h1, hrefl w, h2⟩) h
end
def OneR {α : Type} (d : Kd α) (e : Nat) (xs : List α) (p : Value → Value) (v : Value) (w : World) : Prop := ∃ u, v = p u ∧ d.R e w 0 (fun _ => True) u xs
theorem OneR.grows {α : Type} {d : Kd α} {e : Nat} {xs : List α} {p : Value → Value} (v : Value) (w w' : World) (hg : Grows w w') (h : OneR d e xs p v w) : OneR d e xs p v w' := by
 obtain ⟨u, h1, h2⟩ := h
 exact ⟨u, h1, Kd.zaY h2 hg⟩
theorem OneR.of {α : Type} {d : Kd α} {e : Nat} {xs : List α} {p : Value → Value} {u : Value} {w : World} {base : Nat} {ok : Nat → Prop} (h : d.R e w base ok u xs) : OneR d e xs p (p u) w := ⟨u, rfl, Kd.zbm (Kd.zaz h (fun _ _ => trivial)) (Nat.zero_le _)⟩
theorem OneR.reads {α : Type} {d : Kd α} {e : Nat} {xs : List α} {p : Value → Value} {v : Value} {w : World} (h : OneR d e xs p v w) : ∃ A c, v = p (.slice A xs.length c) ∧ xs.length ≤ c ∧ d.C w A xs.length xs ∧ d.R e w 0 (fun _ => True) (.slice A xs.length c) xs := by
 obtain ⟨u, h1, h2⟩ := h
 obtain ⟨A, c, rfl⟩ := Kd.zaR h2
 exact ⟨A, c, h1, (Kd.zaU h2).2.1, (Kd.zaU h2).2.2, h2⟩
section
variable {P : Program} {ops : Array Oper} {Q : Exit → Act → World → Prop} {a0 : Act} {w0 : World} {m : Nat}
end
theorem Grows.at {A B : World} (h : Grows A B) {k : Nat} {o : Obj} (hk : A.heap[k]? = some o) : B.heap[k]? = some o := (h.block _ (zam hk)).trans hk
theorem Grows.alloc (w : World) (o : Obj) : Grows w (w.alloc o) := (Below.refl _ _).alloc (Nat.le_refl _) _
theorem zaf {α : Type} {l : List α} {a : α} (i : Nat) (h : l[i]? = some a) : a ∈ l := List.mem_of_getElem? h
section
variable {P : Program} {ops : Array Oper} {Q : Exit → Act → World → Prop} {ρ : World → World → Prop} {a0 : Act} {w0 : World} {m : Nat} {late : List Nat}
def rgOkL (ops : Array Oper) (m N : Nat) (late : List Nat) : Bool :=
 rgOkT ops m N && decide (m < ops.size) && (List.range ops.size).all (fun i => (needs ops i).all (fun j => decide (j < i))) && (List.range m).all (fun j => late.contains j || (needs ops m).contains j) &&
 (List.range ops.size).all (fun t => decide (t ≤ m) || (List.range t).all (fun j => (needs ops t).contains j))
theorem zd5 {N : Nat} (h : rgOkL ops m N late = true) : m < ops.size ∧ (∀ j, j < m → ∀ t, zaM ops j = some t → t < N) ∧ (∀ j k, j < m → k < m → ∀ t, zaM ops j = some t → zaM ops k = some t → j = k) ∧
  (∀ i j, j ∈ needs ops i → j < i) ∧ (∀ j, j < m → j ∉ late → j ∈ needs ops m) ∧ (∀ t, m < t → t < ops.size → ∀ j, j < t → j ∈ needs ops t) := by
 simp only [rgOkL, rgOkT, Bool.and_eq_true, decide_eq_true_eq] at h
 obtain ⟨⟨⟨⟨⟨⟨h1, h2⟩, h3⟩, h4⟩, h5⟩, h6⟩, h7⟩ := h
 refine ⟨h4, fun j hj t ht => ?_, fun j k hj hk t ht ht' => zf6 _ List.nodup_range h3 j k (List.mem_range.2 hj) (List.mem_range.2 hk) t ht ht', fun i j hj => ?_, fun j hj hl => ?_, fun t hm ht j hj => ?_⟩
 ·
  have := List.all_eq_true.1 h2 t (List.mem_filterMap.2 ⟨j, List.mem_range.2 hj, ht⟩)
  simpa using this
 ·
  by_cases hi : i < ops.size
  ·
   have h8 := List.all_eq_true.1 h5 i (List.mem_range.2 hi)
   simpa using List.all_eq_true.1 h8 j hj
  ·
   have : ops[i]? = none := Array.getElem?_eq_none o9
   simp [needs, this] at hj
 ·
  have := List.all_eq_true.1 h6 j (List.mem_range.2 hj)
  simpa [hl] using this
 ·
  have h8 := List.all_eq_true.1 h7 t (List.mem_range.2 ht)
  simp only [Bool.or_eq_true, decide_eq_true_eq] at h8
  rcases h8 with h8 | h8
  ·
   omega
  ·
   simpa using List.all_eq_true.1 h8 j (List.mem_range.2 hj)
theorem tailL {N : Nat} (hok : rgOkL ops m N late = true) : ∀ (k t : Nat) (listed : Array Bool) (a : Act) (w : World), t + k = ops.size → m < t → listed.size = ops.size → (∀ j, j < ops.size → listed.getD j false = decide (j < t)) →
  wpOps P ops Q (List.range' t k) a w → wpAny P .any ops Q k listed a w := by
 obtain ⟨_, _, _, hlt, _, htl⟩ := zd5 hok
 intro k
 induction k with
 | zero =>
  intro t listed a w ht _ hsz hl h
  refine ⟨?_, by simpa [wpOps] using h⟩
  refine List.eq_nil_iff_forall_not_mem.2 fun i hi => ?_
  obtain ⟨hi1, hi2, _⟩ := zbR hi
  have := hl i hi1
  rw [Array.getD_eq_getD_getElem?, Array.getElem?_eq_getElem o9] at hi2 this
  simp only [Option.getD_some] at hi2 this
  rw [hi2] at this
  have : ¬ i < t := by simpa using this.symm
  omega
 | succ k ih =>
  intro t listed a w ht hm hsz hl h
  have htn : t < ops.size := by omega
  have hun : listed.getD t true = false := by
   have := hl t htn
   rw [Array.getD_eq_getD_getElem?, Array.getElem?_eq_getElem o9] at this ⊢
   simpa using this
  have hrd : t ∈ Region.ready .any ops listed := zb5 htn hun fun j hj => by
   have := hlt t j hj
   rw [hl j o9]; simpa using this
  refine ⟨fun h0 => by rw [h0] at hrd; simp at hrd, fun i hi => ?_⟩
  obtain ⟨hi1, hi2, hi3⟩ := zbR hi
  have hit : t ≤ i := by
   rcases Nat.lt_or_ge i t with hc | hc
   ·
    have := hl i hi1
    rw [Array.getD_eq_getD_getElem?, Array.getElem?_eq_getElem o9] at hi2 this
    simp only [Option.getD_some] at hi2 this
    rw [hi2] at this
    simp at this
    omega
   ·
    exact hc
  have hie : i = t := by
   rcases Nat.lt_or_ge t i with hc | hc
   ·
    have h6 := hi3 t (htl i o9 hi1 t hc)
    rw [hl t htn] at h6
    simp at h6
   ·
    omega
  subst hie
  have h' : wpOps P ops Q (i :: List.range' (i + 1) k) a w := by simpa [List.range'_succ] using h
  rw [wpOps_cons] at h'
  refine wpOp_mono (fun a' w' hh => ih (i + 1) (listed.setIfInBounds i true) a' w' o9 o9 (by simpa using hsz) (fun j hj => ?_) hh) h'
  by_cases hji : i = j
  ·
   subst hji; rw [Array.getD_eq_getD_getElem?]; simp [hsz, hj]
  ·
   have := hl j hj
   rw [Array.getD_eq_getD_getElem?] at this ⊢
   rw [Array.getElem?_setIfInBounds_ne hji, this]
   simp only [decide_eq_decide]
   omega
theorem zcj {listed : Array Bool} {i : Nat} (hsz : listed.size = ops.size) (hi1 : i < ops.size) (j : Nat) : (listed.setIfInBounds i true).getD j false = if j = i then true else listed.getD j false := by
 by_cases hji : j = i
 ·
  subst hji; rw [Array.getD_eq_getD_getElem?]; simp [hsz, hi1]
 ·
  rw [Array.getD_eq_getD_getElem?, Array.getElem?_setIfInBounds_ne (Ne.symm hji), Array.getD_eq_getD_getElem?, if_neg hji]
theorem zfX {listed : Array Bool} {i fuel : Nat} (hsz : listed.size = ops.size) (hi1 : i < ops.size) (hib : listed.getD i false = false) (hc : fuel + 1 + (List.range ops.size).countP (fun j => listed.getD j false) = ops.size) :
  fuel + (List.range ops.size).countP (fun j => (listed.setIfInBounds i true).getD j false) = ops.size := by
 have h2 : ∀ n, n ≤ ops.size → (List.range n).countP (fun j => (listed.setIfInBounds i true).getD j false) = (List.range n).countP (fun j => listed.getD j false) + if i < n then 1 else 0 := by
  intro n
  induction n with
  | zero => intro _; simp
  | succ n ihn =>
   intro hn
   rw [List.range_succ, List.countP_append, List.countP_append, ihn o9]
   simp only [List.countP_singleton, zcj hsz hi1]
   by_cases hni : n = i
   ·
    subst hni; simp [hib]
   ·
    rw [if_neg hni]
    by_cases h3 : i < n
    ·
     rw [if_pos h3, if_pos (show i < n + 1 by omega)]; omega
    ·
     rw [if_neg h3, if_neg (show ¬ i < n + 1 by omega)]; omega
 rw [h2 _ (Nat.le_refl _), if_pos hi1]; omega
theorem zf4 {listed : Array Bool} (h : (List.range ops.size).countP (fun j => listed.getD j false) = ops.size) : ∀ j, j < ops.size → listed.getD j false = true := by
 have := List.countP_eq_length (p := fun j => listed.getD j false) (l := List.range ops.size)
 exact fun j hj => (this.1 (by simpa using h)) j (List.mem_range.2 hj)
theorem zfv {listed : Array Bool} {t : Nat} (ht : t ≤ ops.size) (hall : ∀ j, j < t → listed.getD j false = true) (hno : ∀ j, t ≤ j → j < ops.size → listed.getD j false = false) : (List.range ops.size).countP (fun j => listed.getD j false) = t := by
 have h1 : ∀ (k n : Nat), n = t + k → n ≤ ops.size → (List.range n).countP (fun j => listed.getD j false) = t := by
  intro k
  induction k with
  | zero =>
   intro n hn hle
   have := (List.countP_eq_length (p := fun j => listed.getD j false) (l := List.range n)).2 (fun j hj => hall j (by have := List.mem_range.1 hj; omega))
   simpa [hn] using this
  | succ k ihk =>
   intro n hn hle
   obtain ⟨n', rfl⟩ : ∃ n', n = n' + 1 := ⟨n - 1, by omega⟩
   rw [List.range_succ, List.countP_append, ihk n' o9 o9]
   simp only [List.countP_singleton, hno n' o9 o9]
   simp
 exact h1 (ops.size - t) ops.size o9 (Nat.le_refl _)
theorem zgH {listed : Array Bool} {m : Nat} (h : ¬ ∀ j, j < m → listed.getD j false = true) : ∃ j, j < m ∧ listed.getD j false = false ∧ ∀ k, k < j → listed.getD k false = true := by
 have hex : ∃ j, j < m ∧ listed.getD j false = false := by
  refine Classical.byContradiction fun hno' => h fun j hj => ?_
  cases hb : listed.getD j false with
  | true => rfl
  | false => exact absurd ⟨j, hj, hb⟩ hno'
 obtain ⟨j, hj, hb⟩ := hex
 induction j using Nat.strongRecOn with
 | _ j ihj =>
  by_cases hk : ∀ k, k < j → listed.getD k false = true
  ·
   exact ⟨j, hj, hb, hk⟩
  ·
   obtain ⟨k, hk⟩ := Classical.not_forall.1 hk
   obtain ⟨hkj, hkb⟩ := Classical.not_imp.1 hk
   exact ihj k hkj o9 (by simpa using hkb)
theorem zgL {listed : Array Bool} {j : Nat} (hsz : listed.size = ops.size) (hj : j < ops.size) (hb : listed.getD j false = false) (hk : ∀ k ∈ needs ops j, listed.getD k false = true) : j ∈ Region.ready .any ops listed :=
 zb5 hj (by rw [Array.getD_eq_getD_getElem?, Array.getElem?_eq_getElem o9] at hb ⊢; simpa using hb) hk
theorem behind {N : Nat} (hok : rgOkL ops m N late = true) (hN : a0.tmps.size = N) (vs : Nat → Value) (w1 : World) (hfin : wpOps P ops Q (List.range' (m + 1) (ops.size - (m + 1))) (putL ops vs (List.range m) a0) w1)
  (hlate : ∀ i, i < m → i ∈ late → ∀ a : Act, a.defers = a0.defers → a.tmps.size = a0.tmps.size → (∀ j ∈ needs ops i, ∀ t, zaM ops j = some t → a.tmps[t]?.getD undef = vs j) → (∀ t, (∀ j, j < m → zaM ops j ≠ some t) → a.tmps[t]?.getD undef = a0.tmps[t]?.getD undef) →
   ∃ o, ops[i]? = some o ∧ Region.wanted o (yielded ops a.tmps) = true ∧ ∀ w', (execOp a.eval o).run P w' = .ok (.value (vs i)) w') :
  ∀ (fuel : Nat) (listed : Array Bool) (a : Act), listed.size = ops.size → fuel + (List.range ops.size).countP (fun j => listed.getD j false) = ops.size → listed.getD m false = true →
   (∀ j, j < m → j ∉ late → listed.getD j false = true) → (∀ j, m < j → j < ops.size → listed.getD j false = false) → a.defers = a0.defers → a.tmps.size = a0.tmps.size →
   (∀ j, j < m → listed.getD j false = true → ∀ t, zaM ops j = some t → a.tmps[t]?.getD undef = vs j) →
   (∀ t, (∀ j, j < m → zaM ops j ≠ some t) → a.tmps[t]?.getD undef = a0.tmps[t]?.getD undef) → wpAny P .any ops Q fuel listed a w1 := by
 obtain ⟨hm, hsl, hun, hlt, hnm, htl⟩ := zd5 hok
 intro fuel
 induction fuel with
 | zero =>
  intro listed a hsz hc hlm hnl hno hd hs hin hout
  have hall := zf4 (ops := ops) (listed := listed) o9
  have hmn : m + 1 = ops.size := by
   rcases Nat.lt_or_ge (m + 1) ops.size with hc' | hc'
   ·
    have := hno (m + 1) o9 hc'
    rw [hall _ hc'] at this; cases this
   ·
    omega
  have ha : a = putL ops vs (List.range m) a0 := by
   refine zde (by rw [zbQ, hd]) (by rw [zb7, hs]) fun t ht => ?_
   by_cases hx : ∃ j, j < m ∧ zaM ops j = some t
   ·
    obtain ⟨j, hj, hjt⟩ := hx
    rw [hin j hj (hall j o9) t hjt, zcS vs _ _ (List.mem_range.2 hj) hjt (by rw [← hs]; exact ht) (fun k hk hkt => hun k j (List.mem_range.1 hk) hj t hkt hjt)]
   ·
    rw [hout t (fun j hj e => hx ⟨j, hj, e⟩), zbT vs _ _ (fun j hj e => hx ⟨j, List.mem_range.1 hj, e⟩)]
  rw [ha]
  refine tailL hok 0 ops.size listed _ w1 rfl hm hsz (fun j hj => by rw [hall j hj]; simpa using hj) ?_
  have : ops.size - (m + 1) = 0 := by omega
  rw [this] at hfin
  simpa [wpOps] using hfin
 | succ fuel ih =>
  intro listed a hsz hc hlm hnl hno hd hs hin hout
  by_cases hall : ∀ j, j < m → listed.getD j false = true
  ·
   have ha : a = putL ops vs (List.range m) a0 := by
    refine zde (by rw [zbQ, hd]) (by rw [zb7, hs]) fun t ht => ?_
    by_cases hx : ∃ j, j < m ∧ zaM ops j = some t
    ·
     obtain ⟨j, hj, hjt⟩ := hx
     rw [hin j hj (hall j hj) t hjt, zcS vs _ _ (List.mem_range.2 hj) hjt (by rw [← hs]; exact ht) (fun k hk hkt => hun k j (List.mem_range.1 hk) hj t hkt hjt)]
    ·
     rw [hout t (fun j hj e => hx ⟨j, hj, e⟩), zbT vs _ _ (fun j hj e => hx ⟨j, List.mem_range.1 hj, e⟩)]
   have hall' : ∀ j, j < m + 1 → listed.getD j false = true := fun j hj => by
    rcases Nat.lt_or_ge j m with h | h
    ·
     exact hall j h
    ·
     obtain rfl : j = m := by omega
     exact hlm
   have hcm := zfv (ops := ops) (listed := listed) (t := m + 1) o9 hall' (fun j hj hjn => hno j o9 hjn)
   have hk : fuel + 1 = ops.size - (m + 1) := by omega
   rw [ha, hk]
   refine tailL hok (ops.size - (m + 1)) (m + 1) listed _ w1 o9 o9 hsz (fun j hj => ?_) hfin
   by_cases hjm : j < m + 1
   ·
    rw [hall' j hjm]; simpa using hjm
   ·
    rw [hno j o9 hj]; simpa using hjm
  ·
   refine ⟨fun h0 => ?_, fun i hi => ?_⟩
   ·
    obtain ⟨j, hj, hb, hk⟩ := zgH hall
    have := zgL hsz o9 hb (fun k hk' => hk k (hlt j k hk'))
    rw [h0] at this; simp at this
   ·
    obtain ⟨hi1, hi2, hi3⟩ := zbR hi
    have hib : listed.getD i false = false := by
     rw [Array.getD_eq_getD_getElem?, Array.getElem?_eq_getElem o9] at hi2 ⊢; simpa using hi2
    have him : i < m := by
     rcases Nat.lt_or_ge i m with hc' | hc'
     ·
      exact hc'
     ·
      rcases Nat.eq_or_lt_of_le hc' with h | h
      ·
       rw [← h, hlm] at hib; cases hib
      ·
       exact absurd (fun j (hj : j < m) => hi3 j (htl i h hi1 j o9)) hall
    have hil : i ∈ late := Classical.byContradiction fun h => by rw [hnl i him h] at hib; cases hib
    obtain ⟨o, hoi, hw, hrun⟩ := hlate i him hil a hd hs (fun j hj t ht => hin j (by have := hlt i j hj; omega) (hi3 j hj) t ht) hout
    have hso : zaM ops i = o.dst := by simp [zaM, hoi]
    unfold wpOp
    simp only [hoi, hw, if_true]
    refine .inl ?_
    unfold Oper.wp
    rw [hrun w1]
    show wpAny P .any ops Q fuel (listed.setIfInBounds i true) (a.put o.dst (vs i)) w1
    rw [← hso]
    have hne : ∀ j, j < m → j ≠ i → ∀ t, zaM ops j = some t → zaM ops i ≠ some t := fun j hj hji t hjt hit => hji (hun j i hj him t hjt hit)
    refine ih _ _ (by simpa using hsz) (zfX hsz hi1 hib hc) ?_ ?_ ?_ (by rw [put_defers, hd]) (by rw [zcY, hs]) ?_ ?_
    ·
     rw [zcj hsz hi1, if_neg o9]; exact hlm
    ·
     intro j hj hjl
     rw [zcj hsz hi1]
     by_cases h : j = i
     ·
      rw [if_pos h]
     ·
      rw [if_neg h]; exact hnl j hj hjl
    ·
     intro j hj hjn
     rw [zcj hsz hi1, if_neg o9]; exact hno j hj hjn
    ·
     intro j hj hb t hjt
     rw [zcj hsz hi1] at hb
     by_cases hji : j = i
     ·
      subst hji
      rw [hjt, zdq (Nat.lt_of_lt_of_le (hsl j hj t hjt) o9)]
     ·
      rw [if_neg hji] at hb
      rw [zb8 (hne j hj hji t hjt)]
      exact hin j hj hb t hjt
    ·
     intro t ht
     rw [zb8 (ht i him)]
     exact hout t ht
variable (P ops Q ρ a0 w0 m late)
def ObL (E : Env) (i : Nat) (v : Value) : Prop :=
 ∀ o, ops[i]? = some o → ∀ a w, ρ w0 w → Seen ops a0 m E i a w → Region.wanted o (yielded ops a.tmps) = true ∧ ∀ w', (execOp a.eval o).run P w' = .ok (.value v) w'
def FinL (E : Env) : Prop := ∀ (vs : Nat → Value) (w : World), ρ w0 w → (∀ p ∈ E, p.2 (vs p.1) w) →
 ∃ o w1, ops[m]? = some o ∧ (execOp (putL ops vs (List.range m) a0).eval o).run P w = .ok .skip w1 ∧ wpOps P ops Q (List.range' (m + 1) (ops.size - (m + 1))) (putL ops vs (List.range m) a0) w1
def RGL : Env → List Nat → Prop
 | E, [] => FinL P ops Q ρ a0 w0 m E
 | E, i :: r => ∃ φ : Value → World → Prop, (∀ v w w', ρ w w' → φ v w → φ v w') ∧ Ob P ops Q ρ a0 w0 m E i φ ∧ (i ∈ late → ∃ v, (∀ x w, φ x w ↔ x = v) ∧ ObL P ops ρ a0 w0 m E i v) ∧ RGL ((i, φ) :: E) r
variable {P ops Q ρ a0 w0 m late}
theorem RGL.out : ∀ (l : List Nat) (E : Env), RGL P ops Q ρ a0 w0 m late E l →
  ∃ E' : Env, E'.map (·.1) = l.reverse ∧ (∀ p ∈ E', ∀ v w w', ρ w w' → p.2 v w → p.2 v w') ∧ (∀ p ∈ E', ∃ E1 : Env, (∀ q ∈ E1, q ∈ E' ++ E) ∧ Ob P ops Q ρ a0 w0 m E1 p.1 p.2 ∧ (p.1 ∈ late → ∃ v, (∀ x w, p.2 x w ↔ x = v) ∧ ObL P ops ρ a0 w0 m E1 p.1 v)) ∧ FinL P ops Q ρ a0 w0 m (E' ++ E)
 | [], E, h => ⟨[], rfl, fun _ h => by simp at h, fun _ h => by simp at h, h⟩
 | i :: r, E, ⟨φ, hs, ho, hl, h⟩ => by
  obtain ⟨E', h1, h2, h3, h4⟩ := RGL.out r ((i, φ) :: E) h
  have he : E' ++ (i, φ) :: E = (E' ++ [(i, φ)]) ++ E := by simp
  rw [he] at h4
  refine ⟨E' ++ [(i, φ)], by simp [h1], ?_, ?_, h4⟩
  ·
   intro p hp
   rcases List.mem_append.1 hp with hp | hp
   ·
    exact h2 p hp
   ·
    rw [List.mem_singleton.1 hp]; exact hs
  ·
   intro p hp
   rcases List.mem_append.1 hp with hp | hp
   ·
    obtain ⟨E1, hE, ho1⟩ := h3 p hp
    exact ⟨E1, fun q hq => by rw [← he]; exact hE q hq, ho1⟩
   ·
    rw [List.mem_singleton.1 hp]
    exact ⟨E, fun q hq => List.mem_append.2 (.inr hq), ho, hl⟩
end
end Go.Proofs.YtfhgmebhdchegaaDoorRG
end

section
namespace Go.Proofs.YtfhgmebhdchegaaDoorRG
open Go.Proofs.YtfhgmebhdchegaaDoorW.zas Go.Proofs.YtfhgmebhdchegaaDoorW.zai
theorem Seen.gv {ops : Array Oper} {a0 : Act} {m : Nat} {E : Env} {i : Nat} {a : Act} {w : World} (h : Seen ops a0 m E i a w) (k : Nat) {j : Nat} {V : Value} (hk : E[k]? = some (j, fun x _ => x = V)) {t : Tmp} (ht : zaM ops j = some t) (hn : (needs ops i).contains j = true := by kernel_rfl) : a.tmps[t]?.getD undef = V := h.get k hk hn ht
theorem Seen.ov {ops : Array Oper} {a0 : Act} {m : Nat} {E : Env} {i : Nat} {a : Act} {w : World} (h : Seen ops a0 m E i a w) (t : Tmp) (V : Value) (hV : a0.tmps[t]?.getD undef = V := by rfl) (ht : (((List.range m).filterMap (zaM ops)).contains t) = false := by kernel_rfl) : a.tmps[t]?.getD undef = V := (h.out t ht).trans hV
end Go.Proofs.YtfhgmebhdchegaaDoorRG
end

section
namespace Go.Proofs.YtfhgmebhdchegaaDoorWords
open Go.RowKit Go.Proofs.YtfhgmebhdchegaaDoorW.zai Go.Proofs.YtfhgmebhdchegaaDoorW.zas Go.Proofs.YtfhgmebhdchegaaDoorRF Go.Proofs.YtfhgmebhdchegaaDoorRG
attribute [local go_sem] Oper.semAt_some
def small (c : Int) : Bool := decide (97 ≤ c) && decide (c ≤ 122)
def great (c : Int) : Bool := decide (65 ≤ c) && decide (c ≤ 90)
def digit (c : Int) : Bool := decide (48 ≤ c) && decide (c ≤ 57)
def sign (c : Int) : Bool := small c || great c || digit c
def signs (s : ByteArray) (i : Nat) : Bool := (s.data.toList.drop i).all fun c => sign (c.toNat : Int)
def word (first : Int → Bool) (s : ByteArray) : Bool := decide (0 < s.size) && decide (s.size ≤ 20) && first (bt s 0) && signs s 0
theorem zeD (s : ByteArray) {i : Nat} (h : s.size ≤ i) : signs s i = true := by
 unfold signs
 rw [List.drop_of_length_le (by simpa using h)]; rfl
theorem zfj (s : ByteArray) {i : Nat} (h : i < s.size) : signs s i = (sign ((s[i]'h).toNat : Int) && signs s (i + 1)) := by
 unfold signs
 rw [List.drop_eq_getElem_cons (by simpa using h), List.all_cons]; rfl
theorem zbw (c : Int) (w : World) : Calls Tryd.prog 78 #[.int .u8 c] w fun e w' => e = .returned (.bool (small c)) ∧ w' = w := by
 unfold small
 by_cases h : 97 ≤ c
 ·
  have h1 : decide (97 ≤ c) = true := by simpa using h
  go_enter Tryd.func78, Tryd.ntmps78
  go_wp2
  go_ret
  exact ⟨by rw [h1]; rfl, rfl⟩
 ·
  have h1 : decide (97 ≤ c) = false := by simpa using h
  go_enter Tryd.func78, Tryd.ntmps78
  go_wp2
  go_ret
  exact ⟨rfl, rfl⟩
theorem zbx (c : Int) (w : World) : Calls Tryd.prog 65 #[.int .u8 c] w fun e w' => e = .returned (.bool (great c)) ∧ w' = w := by
 unfold great
 by_cases h : 65 ≤ c
 ·
  have h1 : decide (65 ≤ c) = true := by simpa using h
  go_enter Tryd.func65, Tryd.ntmps65
  go_wp2
  go_ret
  exact ⟨by rw [h1]; rfl, rfl⟩
 ·
  have h1 : decide (65 ≤ c) = false := by simpa using h
  go_enter Tryd.func65, Tryd.ntmps65
  go_wp2
  go_ret
  exact ⟨rfl, rfl⟩
theorem zbJ (c : Int) (w : World) : Calls Tryd.prog 79 #[.int .u8 c] w fun e w' => e = .returned (.bool (digit c)) ∧ w' = w := by
 unfold digit
 by_cases h : 48 ≤ c
 ·
  have h1 : decide (48 ≤ c) = true := by simpa using h
  go_enter Tryd.func79, Tryd.ntmps79
  go_wp2
  go_ret
  exact ⟨by rw [h1]; rfl, rfl⟩
 ·
  have h1 : decide (48 ≤ c) = false := by simpa using h
  go_enter Tryd.func79, Tryd.ntmps79
  go_wp2
  go_ret
  exact ⟨rfl, rfl⟩
theorem zfI (s : ByteArray) (w : World) (hs : s.size ≤ maxLen) :
  Calls Tryd.prog 64 #[.string s, .func (.func 65) #[] #[]] w fun e w' => e = .returned (.bool (word great s)) ∧ Below w.heap.size w w' := by
 unfold maxLen at hs
 have hsz : s.toList.length = s.size := by rw [ByteArray.toList_eq, Array.length_toList]; rfl
 by_cases h0 : s.toList = []
 ·
  have h0b : (!s.toList.isEmpty) = false := by rw [h0]; rfl
  have hw : word great s = false := by
   unfold word
   have : s.size = 0 := by rw [← hsz, h0]; rfl
   rw [this]; rfl
  have HW := zaa.mk hw
  clear hw hsz
  go_enter Tryd.func64, Tryd.ntmps64
  go_wp2
  go_ret
  exact ⟨by rw [HW.out]; rfl, (Below.refl _ _).alloc (Nat.le_refl _) _⟩
 have h0b : (!s.toList.isEmpty) = true := by cases h : s.toList <;> simp_all
 have h0c : s.toList.isEmpty = false := by simpa using h0b
 have hpos : 0 < s.size := by rw [← hsz]; exact List.length_pos_iff.2 h0
 by_cases h20 : 20 < s.size
 ·
  have hw : word great s = false := by
   unfold word
   rw [show decide (s.size ≤ 20) = false by simpa using h20]
   simp
  have hd : decide (20 < (s.size : Int)) = true := by simp; omega
  have HW := zaa.mk hw
  clear hw hsz
  go_enter Tryd.func64, Tryd.ntmps64
  go_wp2
  go_ret
  exact ⟨by rw [HW.out]; rfl, (Below.refl _ _).alloc (Nat.le_refl _) _⟩
 have hd : decide (20 < (s.size : Int)) = false := by simp; omega
 have hbt : bt s 0 = ((s[0]'hpos).toNat : Int) := by unfold bt; simp [hpos]
 obtain ⟨b, hb⟩ : ∃ b, b = great ((s[0]'hpos).toNat : Int) := ⟨_, rfl⟩
 have HBT := zaa.mk hbt
 clear hsz hbt
 cases b with
 | false =>
  have HW := zaa.mk (show word great s = false by unfold word; rw [HBT.out, ← hb]; simp)
  have HB := zaa.mk hb
  clear hb
  go_enter Tryd.func64, Tryd.ntmps64
  go_wp2_with (go_at_call 65; refine (zbx _ _).mono ?_; rintro e w' ⟨rfl, rfl⟩; rw [← HB.out])
  go_ret
  exact ⟨by rw [HW.out]; rfl, (Below.refl _ _).alloc (Nat.le_refl _) _⟩
 | true =>
  have HW := zaa.mk (show word great s = signs s 0 by unfold word; rw [HBT.out, ← hb, show decide (0 < s.size) = true by simpa using hpos, show decide (s.size ≤ 20) = true by simp; simpa using h20]; simp)
  have HB := zaa.mk hb
  clear hb
  go_enter Tryd.func64, Tryd.ntmps64
  go_wp2_with (go_at_call 65; refine (zbx _ _).mono ?_; rintro e w' ⟨rfl, rfl⟩; rw [← HB.out])
  go_loopw [24] (fun v24 wr => ∃ i : Nat, i ≤ s.size ∧ v24 = .int .i64 i ∧ zaa (signs s 0 = signs s i ∧ Below w.heap.size w wr ∧ wr.heap[w.heap.size]? = some (.cells #[.func (.func 78) #[] #[], .func (.func 65) #[] #[], .func (.func 79) #[] #[]] 132 (0, 0))))
   (fun v24 _ => s.size - (intOf v24).toNat)
  case atStart => exact ⟨0, Nat.zero_le _, rfl, ⟨rfl, (Below.refl _ _).alloc (Nat.le_refl _) _, at_new _ _ rfl⟩⟩
  case round =>
   obtain ⟨i, hi, rfl, ⟨hsg, hbl, hbox⟩⟩ := hrel
   have HSG := zaa.mk hsg
   have HBL := zaa.mk hbl
   have HBX := zaa.mk hbox
   have k0 := zah hbox 0
   have k1 := zah hbox 1
   have k2 := zah hbox 2
   simp only [List.getElem?_toArray, List.getElem?_cons_zero, List.getElem?_cons_succ] at k0 k1 k2
   clear hsg hbl hbox
   by_cases hlt : i < s.size
   ·
    have HN := zaa.mk (zfj s hlt)
    obtain ⟨c, hc⟩ : ∃ c : Int, c = ((s[i]'hlt).toNat : Int) := ⟨_, rfl⟩
    clear hc
    cases hs1 : small ((s[i]'hlt).toNat : Int) with
    | true =>
     have HS := zaa.mk (show sign ((s[i]'hlt).toNat : Int) = true by unfold sign; rw [hs1]; rfl)
     go_wp2_with fail
     go_quiet (first | (go_at_call 78; exact Calls.quiet_of_same (zbw _ _)) | (go_at_call 65; exact Calls.quiet_of_same (zbx _ _)) | (go_at_call 79; exact Calls.quiet_of_same (zbJ _ _)))
     go_wp2_with fail
     go_roundw
     case rel => exact ⟨i + 1, by omega, by go_num, ⟨by rw [HSG.out, HN.out, HS.out]; rfl, zab HBL.out _, HBX.out⟩⟩
     case measure => simp [intOf]; omega
    | false =>
     cases hs2 : great ((s[i]'hlt).toNat : Int) with
     | true =>
      have HS := zaa.mk (show sign ((s[i]'hlt).toNat : Int) = true by unfold sign; rw [hs1, hs2]; rfl)
      go_wp2_with fail
      go_quiet (first | (go_at_call 78; exact Calls.quiet_of_same (zbw _ _)) | (go_at_call 65; exact Calls.quiet_of_same (zbx _ _)) | (go_at_call 79; exact Calls.quiet_of_same (zbJ _ _)))
      go_wp2_with fail
      go_roundw
      case rel => exact ⟨i + 1, by omega, by go_num, ⟨by rw [HSG.out, HN.out, HS.out]; rfl, zab HBL.out _, HBX.out⟩⟩
      case measure => simp [intOf]; omega
     | false =>
      cases hs3 : digit ((s[i]'hlt).toNat : Int) with
      | true =>
       have HS := zaa.mk (show sign ((s[i]'hlt).toNat : Int) = true by unfold sign; rw [hs1, hs2, hs3]; rfl)
       go_wp2_with fail
       go_quiet (first | (go_at_call 78; exact Calls.quiet_of_same (zbw _ _)) | (go_at_call 65; exact Calls.quiet_of_same (zbx _ _)) | (go_at_call 79; exact Calls.quiet_of_same (zbJ _ _)))
       go_wp2_with fail
       go_roundw
       case rel => exact ⟨i + 1, by omega, by go_num, ⟨by rw [HSG.out, HN.out, HS.out]; rfl, zab HBL.out _, HBX.out⟩⟩
       case measure => simp [intOf]; omega
      | false =>
       have HS := zaa.mk (show sign ((s[i]'hlt).toNat : Int) = false by unfold sign; rw [hs1, hs2, hs3]; rfl)
       go_wp2_with fail
       go_quiet (first | (go_at_call 78; exact Calls.quiet_of_same (zbw _ _)) | (go_at_call 65; exact Calls.quiet_of_same (zbx _ _)) | (go_at_call 79; exact Calls.quiet_of_same (zbJ _ _)))
       go_wp2_with fail
       go_ret
       exact ⟨by rw [HW.out, HSG.out, HN.out, HS.out]; rfl, zab HBL.out _⟩
   ·
    have HE := zaa.mk (zeD s (i := i) o9)
    go_wp2_with fail
    go_ret
    exact ⟨by rw [HW.out, HSG.out, HE.out]; rfl, HBL.out⟩
theorem zeX (w : World) : Calls Tryd.prog 89 #[] w fun e w' => e = .returned (.agg #[.string ⟨#[105, 110, 116]⟩, .string ⟨#[114, 101, 97, 108]⟩, .string ⟨#[98, 111, 111, 108]⟩, .string ⟨#[115, 116, 114]⟩, .string ⟨#[117, 110, 105, 116]⟩]) ∧ Below w.heap.size w w' := by
 go_enter Tryd.func89, Tryd.ntmps89
 go_wp2
 exact bodyPost_ret (v := .agg #[.string ⟨#[105, 110, 116]⟩, .string ⟨#[114, 101, 97, 108]⟩, .string ⟨#[98, 111, 111, 108]⟩, .string ⟨#[115, 116, 114]⟩, .string ⟨#[117, 110, 105, 116]⟩]) (by simp [results, Tryd.results89, go_sem]) rfl ⟨rfl, (Below.refl _ _).alloc (Nat.le_refl _) _⟩
def tag (s : ByteArray) : Int :=
 if s.toList = [105, 110, 116] then 1 else if s.toList = [114, 101, 97, 108] then 2 else if s.toList = [98, 111, 111, 108] then 3 else if s.toList = [115, 116, 114] then 4 else if s.toList = [117, 110, 105, 116] then 5 else 0
def base (i : Nat) : ByteArray := ([⟨#[105, 110, 116]⟩, ⟨#[114, 101, 97, 108]⟩, ⟨#[98, 111, 111, 108]⟩, ⟨#[115, 116, 114]⟩, ⟨#[117, 110, 105, 116]⟩] : List ByteArray).getD i ByteArray.empty
theorem zeT (w : World) (i : Nat) (h : i < 5) : (Instr.index 142 (.agg #[.string ⟨#[105, 110, 116]⟩, .string ⟨#[114, 101, 97, 108]⟩, .string ⟨#[98, 111, 111, 108]⟩, .string ⟨#[115, 116, 114]⟩, .string ⟨#[117, 110, 105, 116]⟩]) (.int .i64 (i : Int))).run Tryd.prog w = .ok (.string (base i)) w := by
 rcases (by omega : i = 0 ∨ i = 1 ∨ i = 2 ∨ i = 3 ∨ i = 4) with rfl | rfl | rfl | rfl | rfl <;> kernel_rfl
def tag2 (s : ByteArray) : Int × Int := if tag s = 0 then (0, 7) else (tag s, 0)
theorem base0 : (base 0).toList = [105, 110, 116] := by rw [ByteArray.toList_eq]; rfl
theorem base1 : (base 1).toList = [114, 101, 97, 108] := by rw [ByteArray.toList_eq]; rfl
theorem base2 : (base 2).toList = [98, 111, 111, 108] := by rw [ByteArray.toList_eq]; rfl
theorem base3 : (base 3).toList = [115, 116, 114] := by rw [ByteArray.toList_eq]; rfl
theorem base4 : (base 4).toList = [117, 110, 105, 116] := by rw [ByteArray.toList_eq]; rfl
theorem zhe {s : ByteArray} {i : Nat} (hi : i < 5) (h : (base i).toList = s.toList) : tag2 s = ((i : Int) + 1, 0) := by
 unfold tag2 tag
 rcases (by omega : i = 0 ∨ i = 1 ∨ i = 2 ∨ i = 3 ∨ i = 4) with rfl | rfl | rfl | rfl | rfl <;> rw [← h] <;> simp [base0, base1, base2, base3, base4]
theorem zhQ {s : ByteArray} (h : ∀ j, j < 5 → (base j).toList ≠ s.toList) : tag2 s = (0, 7) := by
 have h0 : s.toList ≠ [105, 110, 116] := fun e => h 0 o9 (base0.trans e.symm)
 have h1 : s.toList ≠ [114, 101, 97, 108] := fun e => h 1 o9 (base1.trans e.symm)
 have h2 : s.toList ≠ [98, 111, 111, 108] := fun e => h 2 o9 (base2.trans e.symm)
 have h3 : s.toList ≠ [115, 116, 114] := fun e => h 3 o9 (base3.trans e.symm)
 have h4 : s.toList ≠ [117, 110, 105, 116] := fun e => h 4 o9 (base4.trans e.symm)
 unfold tag2 tag
 rw [if_neg h0, if_neg h1, if_neg h2, if_neg h3, if_neg h4]; rfl
theorem zgb (s : ByteArray) (w : World) (x y : Int) (hxy : tag2 s = (x, y)) : Calls Tryd.prog 85 #[.string s] w fun e w' => e = .returned (.tuple #[.int .i64 x, .int .i64 y]) ∧ Below w.heap.size w w' := by
 have HXY := zaa.mk hxy
 clear hxy
 have ix := fun w => zeT w
 go_enter Tryd.func85, Tryd.ntmps85
 go_wp2_with (go_at_call 89; refine (zeX _).mono ?_; rintro e w' ⟨rfl, hb⟩; have HB := zaa.mk hb; clear hb)
 go_loop [7] (fun v7 => ∃ i : Nat, i ≤ 5 ∧ v7 = .int .i64 i ∧ zaa (∀ j, j < i → (base j).toList ≠ s.toList)) (fun v7 => 5 - (intOf v7).toNat)
 case atStart => exact ⟨0, by omega, rfl, ⟨fun j h => by omega⟩⟩
 case round =>
  obtain ⟨i, hi, rfl, HN⟩ := hrel
  by_cases hlt : i < 5
  ·
   have hx := fun w => ix w i hlt
   obtain ⟨b, hb⟩ : ∃ b, b = base i := ⟨_, rfl⟩
   rw [← hb] at hx
   have HBI := zaa.mk hb
   clear ix hb
   by_cases he : b.toList = s.toList
   ·
    have HE := zaa.mk (zhe hlt (HBI.out ▸ he))
    have hq : (b.toList == s.toList) = true := by simpa using he
    clear he
    go_wp2_with fail
    go_ret2
    obtain ⟨rfl, rfl⟩ := Prod.mk.inj (HXY.out.symm.trans HE.out)
    exact ⟨rfl, HB.out⟩
   ·
    have HE := zaa.mk he
    have hq : (b.toList == s.toList) = false := by simpa using he
    clear he
    go_wp2_with fail
    go_round
    case rel => exact ⟨i + 1, by omega, by go_num, ⟨fun j hj => by
     by_cases hji : j = i
     ·
      rw [hji, ← HBI.out]; exact HE.out
     ·
      exact HN.out j o9⟩⟩
    case measure => simp [intOf]; omega
  ·
   have hi5 : i = 5 := by omega
   have HE := zaa.mk (zhQ (hi5 ▸ HN.out))
   obtain ⟨rfl, rfl⟩ := Prod.mk.inj (HXY.out.symm.trans HE.out)
   clear hi5
   go_wp2_with fail
   go_ret2
   exact ⟨rfl, HB.out⟩
end Go.Proofs.YtfhgmebhdchegaaDoorWords
end

section
namespace Go.Proofs.YtfhgmebhdchegaaDoor.PAll
open Go.RowKit Go.Proofs.YtfhgmebhdchegaaDoorW.zai Go.Proofs.YtfhgmebhdchegaaDoorW.zas Go.Proofs.YtfhgmebhdchegaaDoorW.za5
attribute [local go_sem] zbg zbh zbt zbs za7 za8 zbf zbi
def errW : Option Int → Value
 | none => .nilIface
 | some c => .iface 0 (.int .i64 c)
theorem zaF : errW none = .nilIface := rfl
theorem zaG (c : Int) : errW (some c) = .iface 0 (.int .i64 c) := rfl
theorem zgU : (Tryd.prog.info? 84).map (fun i => (i.zero, i.size, i.bytes)) = some (some (.agg #[(.string ⟨#[]⟩), (.int .i64 0)]), 2, 24) := by kernel_rfl
structure S48 where
 f0 : ByteArray
 f1 : ByteArray
def z48 : S48 := ⟨(⟨#[]⟩ : ByteArray), (⟨#[]⟩ : ByteArray)⟩
def k48 : Kd S48 := Kd.iso (Kd.pair Kd.string Kd.string) (fun x : S48 => (x.f0, x.f1))
theorem zgy {w : World} {x : S48} {cs : List Value} (h : k48.K w x cs) : cs = [.string x.f0, .string x.f1] := by
 obtain ⟨_, _, rfl, rfl, rfl⟩ := h
 exact rfl
theorem zdg (w : World) (base : Nat) (ok : Nat → Prop) (x : S48)  : k48.M w base ok x [.string x.f0, .string x.f1] := ⟨[.string x.f0], [.string x.f1], rfl, rfl, rfl⟩
def za1 (xs : List S48) (i : Int) : S48 := xs.getD i.toNat z48
theorem zcM {w : World} {A : Option Addr} {n : Nat} {xs : List S48} (h : Kd.C k48 w A n xs) (i : Int) (h0 : 0 ≤ i) (h1 : i < n) : ∃ ad , A = some ad ∧ w.cell? (ad.add (i.toNat * 2)) = some (.string (za1 xs i).f0) ∧ w.cell? ⟨(ad.add (i.toNat * 2)).block, (ad.add (i.toNat * 2)).off + 1, none⟩ = some (.string (za1 xs i).f1) := by
 obtain ⟨ad, c, e, _, hK, hc0⟩ := Kd.C_get h z48 i h0 h1
 have hc : ∀ j u, c[j]? = some u → w.cell? (ad.add (i.toNat * 2 + j)) = some u := hc0
 obtain rfl := zgy hK
 exact ⟨ad, e, hc 0 _ rfl, by rw [← zbO _ _ 1 o9]; exact hc 1 _ rfl⟩
structure S51 where
 f0 : ByteArray
 f1 : (List S48)
 f2 : ByteArray
def z51 : S51 := ⟨(⟨#[]⟩ : ByteArray), ([] : List S48), (⟨#[]⟩ : ByteArray)⟩
def k51 : Kd S51 := Kd.iso (Kd.pair Kd.string (Kd.pair (Kd.slice 48 k48) Kd.string)) (fun x : S51 => (x.f0, x.f1, x.f2))
theorem zgr {w : World} {x : S51} {cs : List Value} (h : k51.K w x cs) : ∃ A1 c1, cs = [.string x.f0, .slice A1 x.f1.length c1, .string x.f2] ∧ x.f1.length ≤ c1 ∧ k48.C w A1 x.f1.length x.f1 := by
 obtain ⟨_, _, rfl, rfl, ⟨_, _, rfl, ⟨A1, c1, rfl, l1, g1⟩, rfl⟩⟩ := h
 exact ⟨A1, c1, rfl, l1, g1⟩
theorem zeu {w : World} {base : Nat} {ok : Nat → Prop} {x : S51} {cs : List Value} (h : k51.M w base ok x cs) : ∃ v1, cs = [.string x.f0, v1, .string x.f2] ∧ k48.R 48 w base ok v1 x.f1 := by
 obtain ⟨_, _, rfl, rfl, ⟨_, _, rfl, ⟨v1, rfl, g1⟩, rfl⟩⟩ := h
 exact ⟨v1, rfl, g1⟩
theorem zhu (w : World) (x : S51) {A1 : Option Addr} {c1 : Nat} (l1 : x.f1.length ≤ c1) (g1 : k48.C w A1 x.f1.length x.f1) : k51.K w x [.string x.f0, .slice A1 x.f1.length c1, .string x.f2] := ⟨[.string x.f0], [.slice A1 x.f1.length c1, .string x.f2], rfl, rfl, ⟨[.slice A1 x.f1.length c1], [.string x.f2], rfl, ⟨A1, c1, rfl, l1, g1⟩, rfl⟩⟩
theorem zf7 (w : World) (base : Nat) (ok : Nat → Prop) (x : S51) {v1 : Value} (g1 : k48.R 48 w base ok v1 x.f1) : k51.M w base ok x [.string x.f0, v1, .string x.f2] := ⟨[.string x.f0], [v1, .string x.f2], rfl, rfl, ⟨[v1], [.string x.f2], rfl, ⟨v1, rfl, g1⟩, rfl⟩⟩
theorem zem (W : World) (ok : Nat → Prop) (x : S51) {A1 : Option Addr} {c1 : Nat} (l1 : x.f1.length ≤ c1) (g1 : Kd.F k48 W ok A1 x.f1.length x.f1) : Kd.FK k51 W ok x [.string x.f0, .slice A1 x.f1.length c1, .string x.f2] := fun W2 hW => zhu W2 x l1 (g1 W2 hW)
def zaQ (xs : List S51) (i : Int) : S51 := xs.getD i.toNat z51
theorem zdF {w : World} {A : Option Addr} {n : Nat} {xs : List S51} (h : Kd.C k51 w A n xs) (i : Int) (h0 : 0 ≤ i) (h1 : i < n) : ∃ ad A1 c1, A = some ad ∧ w.cell? (ad.add (i.toNat * 3)) = some (.string (zaQ xs i).f0) ∧ w.cell? ⟨(ad.add (i.toNat * 3)).block, (ad.add (i.toNat * 3)).off + 1, none⟩ = some (.slice A1 (zaQ xs i).f1.length c1) ∧ w.cell? ⟨(ad.add (i.toNat * 3)).block, (ad.add (i.toNat * 3)).off + 2, none⟩ = some (.string (zaQ xs i).f2) ∧ (zaQ xs i).f1.length ≤ c1 ∧ k48.C w A1 (zaQ xs i).f1.length (zaQ xs i).f1 := by
 obtain ⟨ad, c, e, _, hK, hc0⟩ := Kd.C_get h z51 i h0 h1
 have hc : ∀ j u, c[j]? = some u → w.cell? (ad.add (i.toNat * 3 + j)) = some u := hc0
 obtain ⟨A1, c1, rfl, l1, g1⟩ := zgr hK
 exact ⟨ad, A1, c1, e, hc 0 _ rfl, by rw [← zbO _ _ 1 o9]; exact hc 1 _ rfl, by rw [← zbO _ _ 2 o9]; exact hc 2 _ rfl, l1, g1⟩
structure S43 where
 f0 : ByteArray
 f1 : ByteArray
 f2 : (List S48)
 f3 : (List S51)
def z43 : S43 := ⟨(⟨#[]⟩ : ByteArray), (⟨#[]⟩ : ByteArray), ([] : List S48), ([] : List S51)⟩
def k43 : Kd S43 := Kd.iso (Kd.pair Kd.string (Kd.pair Kd.string (Kd.pair (Kd.slice 48 k48) (Kd.slice 51 k51)))) (fun x : S43 => (x.f0, x.f1, x.f2, x.f3))
theorem zgM {w : World} {x : S43} {cs : List Value} (h : k43.K w x cs) : ∃ A2 c2 A3 c3, cs = [.string x.f0, .string x.f1, .slice A2 x.f2.length c2, .slice A3 x.f3.length c3] ∧ x.f2.length ≤ c2 ∧ k48.C w A2 x.f2.length x.f2 ∧ x.f3.length ≤ c3 ∧ k51.C w A3 x.f3.length x.f3 := by
 obtain ⟨_, _, rfl, rfl, ⟨_, _, rfl, rfl, ⟨_, _, rfl, ⟨A2, c2, rfl, l2, g2⟩, ⟨A3, c3, rfl, l3, g3⟩⟩⟩⟩ := h
 exact ⟨A2, c2, A3, c3, rfl, l2, g2, l3, g3⟩
theorem zhD (w : World) (x : S43) {A2 : Option Addr} {c2 : Nat} (l2 : x.f2.length ≤ c2) (g2 : k48.C w A2 x.f2.length x.f2) {A3 : Option Addr} {c3 : Nat} (l3 : x.f3.length ≤ c3) (g3 : k51.C w A3 x.f3.length x.f3) : k43.K w x [.string x.f0, .string x.f1, .slice A2 x.f2.length c2, .slice A3 x.f3.length c3] := ⟨[.string x.f0], [.string x.f1, .slice A2 x.f2.length c2, .slice A3 x.f3.length c3], rfl, rfl, ⟨[.string x.f1], [.slice A2 x.f2.length c2, .slice A3 x.f3.length c3], rfl, rfl, ⟨[.slice A2 x.f2.length c2], [.slice A3 x.f3.length c3], rfl, ⟨A2, c2, rfl, l2, g2⟩, ⟨A3, c3, rfl, l3, g3⟩⟩⟩⟩
theorem zdc (W : World) (ok : Nat → Prop) (x : S43) {A2 : Option Addr} {c2 : Nat} (l2 : x.f2.length ≤ c2) (g2 : Kd.F k48 W ok A2 x.f2.length x.f2) {A3 : Option Addr} {c3 : Nat} (l3 : x.f3.length ≤ c3) (g3 : Kd.F k51 W ok A3 x.f3.length x.f3) : Kd.FK k43 W ok x [.string x.f0, .string x.f1, .slice A2 x.f2.length c2, .slice A3 x.f3.length c3] := fun W2 hW => zhD W2 x l2 (g2 W2 hW) l3 (g3 W2 hW)
def zbF (xs : List S43) (i : Int) : S43 := xs.getD i.toNat z43
theorem zb0 {w : World} {A : Option Addr} {n : Nat} {xs : List S43} (h : Kd.C k43 w A n xs) (i : Int) (h0 : 0 ≤ i) (h1 : i < n) : ∃ ad A2 c2 A3 c3, A = some ad ∧ w.cell? (ad.add (i.toNat * 4)) = some (.string (zbF xs i).f0) ∧ w.cell? ⟨(ad.add (i.toNat * 4)).block, (ad.add (i.toNat * 4)).off + 1, none⟩ = some (.string (zbF xs i).f1) ∧ w.cell? ⟨(ad.add (i.toNat * 4)).block, (ad.add (i.toNat * 4)).off + 2, none⟩ = some (.slice A2 (zbF xs i).f2.length c2) ∧ w.cell? ⟨(ad.add (i.toNat * 4)).block, (ad.add (i.toNat * 4)).off + 3, none⟩ = some (.slice A3 (zbF xs i).f3.length c3) ∧ (zbF xs i).f2.length ≤ c2 ∧ k48.C w A2 (zbF xs i).f2.length (zbF xs i).f2 ∧ (zbF xs i).f3.length ≤ c3 ∧ k51.C w A3 (zbF xs i).f3.length (zbF xs i).f3 := by
 obtain ⟨ad, c, e, _, hK, hc0⟩ := Kd.C_get h z43 i h0 h1
 have hc : ∀ j u, c[j]? = some u → w.cell? (ad.add (i.toNat * 4 + j)) = some u := hc0
 obtain ⟨A2, c2, A3, c3, rfl, l2, g2, l3, g3⟩ := zgM hK
 exact ⟨ad, A2, c2, A3, c3, e, hc 0 _ rfl, by rw [← zbO _ _ 1 o9]; exact hc 1 _ rfl, by rw [← zbO _ _ 2 o9]; exact hc 2 _ rfl, by rw [← zbO _ _ 3 o9]; exact hc 3 _ rfl, l2, g2, l3, g3⟩
structure S84 where
 f0 : ByteArray
 f1 : Int
def z84 : S84 := ⟨(⟨#[]⟩ : ByteArray), (0 : Int)⟩
def k84 : Kd S84 := Kd.iso (Kd.pair Kd.string (Kd.int .i64)) (fun x : S84 => (x.f0, x.f1))
theorem zgN {w : World} {x : S84} {cs : List Value} (h : k84.K w x cs) : cs = [.string x.f0, .int .i64 x.f1] := by
 obtain ⟨_, _, rfl, rfl, rfl⟩ := h
 exact rfl
theorem zgp (w : World) (base : Nat) (ok : Nat → Prop) (x : S84)  : k84.M w base ok x [.string x.f0, .int .i64 x.f1] := ⟨[.string x.f0], [.int .i64 x.f1], rfl, rfl, rfl⟩
def zaV (xs : List S84) (i : Int) : S84 := xs.getD i.toNat z84
theorem zdY {w : World} {A : Option Addr} {n : Nat} {xs : List S84} (h : Kd.C k84 w A n xs) (i : Int) (h0 : 0 ≤ i) (h1 : i < n) : ∃ ad , A = some ad ∧ w.cell? (ad.add (i.toNat * 2)) = some (.string (zaV xs i).f0) ∧ w.cell? ⟨(ad.add (i.toNat * 2)).block, (ad.add (i.toNat * 2)).off + 1, none⟩ = some (.int .i64 (zaV xs i).f1) := by
 obtain ⟨ad, c, e, _, hK, hc0⟩ := Kd.C_get h z84 i h0 h1
 have hc : ∀ j u, c[j]? = some u → w.cell? (ad.add (i.toNat * 2 + j)) = some u := hc0
 obtain rfl := zgN hK
 exact ⟨ad, e, hc 0 _ rfl, by rw [← zbO _ _ 1 o9]; exact hc 1 _ rfl⟩
end Go.Proofs.YtfhgmebhdchegaaDoor.PAll
end

section
namespace Go.Proofs.YtfhgmebhdchegaaDoorTab
open Go.RowKit Go.Proofs.YtfhgmebhdchegaaDoor.PAll Go.Proofs.YtfhgmebhdchegaaDoorW.zai Go.Proofs.YtfhgmebhdchegaaDoorW.zas Go.Proofs.YtfhgmebhdchegaaDoorRF Go.Proofs.YtfhgmebhdchegaaDoorRG
attribute [local go_sem] Oper.semAt_some
def idxC (s : ByteArray) : List (S43) → Nat → Int
 | [], _ => -1
 | x :: r, i => if x.f0.toList = s.toList then (i : Int) else idxC s r (i + 1)
theorem zhb (s : ByteArray) (l : List (S43)) (i : Nat) (h : i < l.length) : idxC s (l.drop i) i = if (zbF l (i : Int)).f0.toList = s.toList then (i : Int) else idxC s (l.drop (i + 1)) (i + 1) := by
 rw [List.drop_eq_getElem_cons h]
 unfold zbF
 rw [Int.toNat_natCast, List.getD_eq_getElem?_getD, List.getElem?_eq_getElem h]; rfl
theorem ze4 (s : ByteArray) : ∀ (l : List (S43)) (i : Nat), idxC s l i = -1 ∨ ((i : Int) ≤ idxC s l i ∧ idxC s l i < i + l.length)
 | [], i => .inl rfl
 | x :: r, i => by
  unfold idxC
  by_cases h : x.f0.toList = s.toList
  ·
   rw [if_pos h]; right; simp; omega
  ·
   rw [if_neg h]
   rcases ze4 s r (i + 1) with q | ⟨q1, q2⟩
   ·
    exact .inl q
   ·
    right; simp; omega
theorem isC (nm : ByteArray) (p : Nat) (x0 : ByteArray) (x1 : ByteArray) (A2 : Option Addr) (n2 c2 : Nat) (A3 : Option Addr) (n3 c3 : Nat) (w : World) (hp : w.heap[p]? = some (.cells #[.string nm] 9 (0, 0))) : Calls Tryd.prog 28 #[.agg #[.string x0, .string x1, .slice A2 n2 c2, .slice A3 n3 c3], .pointer (some ⟨p, 0, none⟩)] w fun e w' => e = .returned (.bool (x0.toList == nm.toList)) ∧ Below w.heap.size w w' := by
 have hu := Tryd.underlying43
 have hc := zah (zaI hp (.cells #[.string x0, .string x1, .slice A2 n2 c2, .slice A3 n3 c3] 43 (0, 0))) 0
 simp only [List.getElem?_toArray, List.getElem?_cons_zero] at hc
 have HP := zaa.mk hp
 clear hp
 go_enter Tryd.func28, Tryd.ntmps28
 go_wp2
 go_ret
 exact ⟨rfl, (Below.refl _ _).alloc (Nat.le_refl _) _⟩
theorem zhA (A0 : Option Addr) (c0 : Nat) (l0 : List (S43)) (nm : ByteArray) (p : Nat) (w : World) (hr0 : Kd.C k43 w A0 l0.length l0) (hl : l0.length < 4398046511104) (hp : w.heap[p]? = some (.cells #[.string nm] 9 (0, 0))) :
  Calls Tryd.prog 49 #[.slice A0 l0.length c0, .func (.func 28) #[] #[.pointer (some ⟨p, 0, none⟩)]] w fun e w' => e = .returned (.int .i64 (idxC nm l0 0)) ∧ Below w.heap.size w w' := by
 have HR0 := zaa.mk hr0
 have HP := zaa.mk hp
 have hu := Tryd.underlying43
 obtain ⟨r, hr⟩ : ∃ r, r = idxC nm l0 0 := ⟨_, rfl⟩
 rw [← hr]
 have HH := zaa.mk hr.symm
 clear hr0 hp hr
 go_enter Tryd.func49, Tryd.ntmps49
 go_wp2
 go_loopw [8] (fun v8 wr => ∃ i : Nat, i ≤ l0.length ∧ v8 = .int .i64 i ∧ zaa (idxC nm (l0.drop i) i = r ∧ Below w.heap.size w wr)) (fun v8 _ => l0.length - (intOf v8).toNat)
 case atStart => exact ⟨0, Nat.zero_le _, rfl, ⟨HH.out, Below.refl _ _⟩⟩
 case round =>
  obtain ⟨i, hi, rfl, ⟨hI, hB⟩⟩ := hrel
  have HB := zaa.mk hB
  by_cases hlt : i < l0.length
  ·
   obtain ⟨ad, A2, c2, A3, c3, hA, x0, x1, x2, x3, _⟩ := zb0 (Kd.zay HR0.out hB) (i : Int) o9 o9
   simp only [Int.toNat_natCast] at x0 x1 x2 x3
   have HA := zhb nm l0 i hlt
   rw [hI] at HA
   obtain ⟨x, hx⟩ : ∃ x, x = zbF l0 (i : Int) := ⟨_, rfl⟩
   rw [← hx] at HA x0 x1 x2 x3
   have HPR := zaa.mk ((hB.block p (zam HP.out)).trans HP.out)
   clear hx hI hB
   subst hA
   by_cases he : x.f0.toList = nm.toList
   ·
    rw [if_pos he] at HA
    have HQ := zaa.mk (show (x.f0.toList == nm.toList) = true by simpa using he)
    subst HA
    clear he
    go_wp2_with fail
    refine (isC nm p x.f0 x.f1 A2 x.f2.length c2 A3 x.f3.length c3 _ HPR.out).mono ?_
    rintro e w2 ⟨rfl, hb⟩
    rw [HQ.out]
    have HB2 := zaa.mk (HB.out.trans (hb.mono HB.out.size))
    clear hb
    go_wp2_with fail
    go_ret
    exact ⟨rfl, HB2.out⟩
   ·
    rw [if_neg he] at HA
    have HQ := zaa.mk (show (x.f0.toList == nm.toList) = false by simpa using he)
    have HA2 := zaa.mk HA.symm
    clear he HA
    go_wp2_with fail
    refine (isC nm p x.f0 x.f1 A2 x.f2.length c2 A3 x.f3.length c3 _ HPR.out).mono ?_
    rintro e w2 ⟨rfl, hb⟩
    rw [HQ.out]
    have HB2 := zaa.mk (HB.out.trans (hb.mono HB.out.size))
    clear hb
    go_wp2_with fail
    go_roundw
    case rel => exact ⟨i + 1, by omega, by go_num, ⟨HA2.out, HB2.out⟩⟩
    case measure => simp [intOf]; omega
  ·
   have hi2 : i = l0.length := by omega
   rw [hi2, List.drop_length] at hI
   have HA2 := zaa.mk hI
   clear hI hi2 hB
   go_wp2_with fail
   go_ret
   exact ⟨by rw [← HA2.out]; rfl, HB.out⟩
def zgR (s : ByteArray) (l : List (S43)) : S43 := if idxC s l 0 < 0 then z43 else zbF l (idxC s l 0)
theorem findC (A0 : Option Addr) (c0 : Nat) (l0 : List (S43)) (nm : ByteArray) (p : Nat) (w : World) (hr0 : Kd.C k43 w A0 l0.length l0) (hl : l0.length < 4398046511104) (hp : w.heap[p]? = some (.cells #[.string nm] 9 (0, 0))) :
  Calls Tryd.prog 27 #[.slice A0 l0.length c0, .func (.func 28) #[] #[.pointer (some ⟨p, 0, none⟩)]] w fun e w' => ∃ y, y = zgR nm l0 ∧ ∃ (A2 : Option Addr) (c2 : Nat), ∃ (A3 : Option Addr) (c3 : Nat),  e = .returned (.tuple #[.agg #[.string y.f0, .string y.f1, .slice A2 y.f2.length c2, .slice A3 y.f3.length c3], .int .i64 (if idxC nm l0 0 < 0 then 0 else idxC nm l0 0), .bool (!decide (idxC nm l0 0 < 0))]) ∧ y.f2.length ≤ c2 ∧ Kd.C k48 w' A2 y.f2.length y.f2 ∧ y.f3.length ≤ c3 ∧ Kd.C k51 w' A3 y.f3.length y.f3 ∧ Below w.heap.size w w' := by
 have hu := Tryd.underlying43
 have HI := zaa.mk (zhA A0 c0 l0 nm p (w.alloc (.cells #[.string ⟨#[]⟩, .string ⟨#[]⟩, .slice none 0 0, .slice none 0 0] 43 (0, 0))) (Kd.zay hr0 ((Below.refl _ _).alloc (Nat.le_refl _) _)) hl (zaI hp _))
 have HR0 := zaa.mk hr0
 have hrange := ze4 nm l0 0
 unfold zgR
 obtain ⟨r, hr⟩ : ∃ r, r = idxC nm l0 0 := ⟨_, rfl⟩
 rw [← hr] at HI hrange ⊢
 clear hr0 hp hr
 by_cases hneg : r < 0
 ·
  rw [if_pos hneg, if_pos hneg]
  have hd : decide (r < 0) = true := by simpa using hneg
  rw [hd]
  clear hrange
  go_enter Tryd.func27, Tryd.ntmps27
  go_wp2_with fail
  refine HI.out.mono ?_
  rintro e w1 ⟨rfl, hb⟩
  have HB1 := zaa.mk (((Below.refl w.heap.size w).alloc (Nat.le_refl _) (.cells #[.string ⟨#[]⟩, .string ⟨#[]⟩, .slice none 0 0, .slice none 0 0] 43 (0, 0))).trans (hb.mono s9))
  have hg1 := (hb.block w.heap.size s9).trans (at_new w (.cells #[.string ⟨#[]⟩, .string ⟨#[]⟩, .slice none 0 0, .slice none 0 0] 43 (0, 0)) rfl)
  have HG1 := zaa.mk hg1
  have g0 := zah hg1 0
  have f0 := free_at hg1 0
  have g1 := zah hg1 1
  have f1 := free_at hg1 1
  have g2 := zah hg1 2
  have f2 := free_at hg1 2
  have g3 := zah hg1 3
  have f3 := free_at hg1 3
  simp only [List.getElem?_toArray, List.getElem?_cons_zero, List.getElem?_cons_succ] at g0 g1 g2 g3
  clear hb hg1 HI
  go_wp2_with fail
  refine bodyPost_ret (zbK rfl _ _ w.heap.size 43 #[.string ⟨#[]⟩, .string ⟨#[]⟩, .slice none 0 0, .slice none 0 0] (0, 0) _ rfl ?_ Tryd.underlying43 rfl k9) rfl ⟨z43, rfl, none, 0, none, 0, rfl, Nat.le_refl _, Kd.C_nil _ _, Nat.le_refl _, Kd.C_nil _ _, ?_⟩
  ·
   exact (zaK (zaK (zaK (zaK HG1.out 0 _ rfl) 1 _ rfl) 2 _ rfl) 3 _ rfl)
  ·
   exact (zau (zau (zau (zau HB1.out (Nat.le_refl _)) (Nat.le_refl _)) (Nat.le_refl _)) (Nat.le_refl _))
 ·
  rw [if_neg hneg, if_neg hneg]
  have hd : decide (r < 0) = false := by simpa using hneg
  rw [hd]
  obtain ⟨m, rfl⟩ : ∃ m : Nat, r = m := ⟨r.toNat, by omega⟩
  have hm : m < l0.length := by omega
  obtain ⟨y, hy⟩ : ∃ y, y = zbF l0 (m : Int) := ⟨_, rfl⟩
  rw [← hy]
  have HY := zaa.mk hy
  clear hrange hy
  go_enter Tryd.func27, Tryd.ntmps27
  go_wp2_with fail
  refine HI.out.mono ?_
  rintro e w1 ⟨rfl, hb⟩
  have HB1 := zaa.mk (((Below.refl w.heap.size w).alloc (Nat.le_refl _) (.cells #[.string ⟨#[]⟩, .string ⟨#[]⟩, .slice none 0 0, .slice none 0 0] 43 (0, 0))).trans (hb.mono s9))
  have hg1 := (hb.block w.heap.size s9).trans (at_new w (.cells #[.string ⟨#[]⟩, .string ⟨#[]⟩, .slice none 0 0, .slice none 0 0] 43 (0, 0)) rfl)
  have HG1 := zaa.mk hg1
  have g0 := zah hg1 0
  have f0 := free_at hg1 0
  have g1 := zah hg1 1
  have f1 := free_at hg1 1
  have g2 := zah hg1 2
  have f2 := free_at hg1 2
  have g3 := zah hg1 3
  have f3 := free_at hg1 3
  simp only [List.getElem?_toArray, List.getElem?_cons_zero, List.getElem?_cons_succ] at g0 g1 g2 g3
  have HB0 := zaa.mk (show Below w.heap.size w w1 from HB1.out)
  obtain ⟨ad, A2, c2, A3, c3, hA, x0, x1, x2, x3, l2, C2, l3, C3⟩ := zb0 HR0.out (m : Int) o9 o9
  replace x0 := (HB1.out.cell (block_lt_of_cell x0)).trans x0
  replace x1 := (HB1.out.cell (block_lt_of_cell x1)).trans x1
  replace x2 := (HB1.out.cell (block_lt_of_cell x2)).trans x2
  replace x3 := (HB1.out.cell (block_lt_of_cell x3)).trans x3
  simp only [Int.toNat_natCast] at x0 x1 x2 x3
  rw [← HY.out] at x0 x1 x2 x3 l2 C2 l3 C3
  skip
  have H2 := zaa.mk C2
  have H3 := zaa.mk C3
  clear C2 C3
  clear hb hg1 HI
  subst hA
  go_wp2_with fail
  refine bodyPost_ret (zbK rfl _ _ w.heap.size 43 #[.string y.f0, .string y.f1, .slice A2 y.f2.length c2, .slice A3 y.f3.length c3] (0, 0) _ rfl ?_ Tryd.underlying43 rfl k9) rfl ⟨y, rfl, A2, c2, A3, c3, rfl, l2, Kd.zay H2.out (zau (zau (zau (zau HB1.out (Nat.le_refl _)) (Nat.le_refl _)) (Nat.le_refl _)) (Nat.le_refl _)), l3, Kd.zay H3.out (zau (zau (zau (zau HB1.out (Nat.le_refl _)) (Nat.le_refl _)) (Nat.le_refl _)) (Nat.le_refl _)), ?_⟩
  ·
   exact (zaK (zaK (zaK (zaK HG1.out 0 _ rfl) 1 _ rfl) 2 _ rfl) 3 _ rfl)
  ·
   exact (zau (zau (zau (zau HB1.out (Nat.le_refl _)) (Nat.le_refl _)) (Nat.le_refl _)) (Nat.le_refl _))
def idxV (s : ByteArray) : List (S48) → Nat → Int
 | [], _ => -1
 | x :: r, i => if x.f0.toList = s.toList then (i : Int) else idxV s r (i + 1)
theorem zhf (s : ByteArray) (l : List (S48)) (i : Nat) (h : i < l.length) : idxV s (l.drop i) i = if (za1 l (i : Int)).f0.toList = s.toList then (i : Int) else idxV s (l.drop (i + 1)) (i + 1) := by
 rw [List.drop_eq_getElem_cons h]
 unfold za1
 rw [Int.toNat_natCast, List.getD_eq_getElem?_getD, List.getElem?_eq_getElem h]; rfl
theorem zgf (s : ByteArray) : ∀ (l : List (S48)) (i : Nat), idxV s l i = -1 ∨ ((i : Int) ≤ idxV s l i ∧ idxV s l i < i + l.length)
 | [], i => .inl rfl
 | x :: r, i => by
  unfold idxV
  by_cases h : x.f0.toList = s.toList
  ·
   rw [if_pos h]; right; simp; omega
  ·
   rw [if_neg h]
   rcases zgf s r (i + 1) with q | ⟨q1, q2⟩
   ·
    exact .inl q
   ·
    right; simp; omega
theorem isV (nm : ByteArray) (p : Nat) (x0 : ByteArray) (x1 : ByteArray) (w : World) (hp : w.heap[p]? = some (.cells #[.string nm] 9 (0, 0))) : Calls Tryd.prog 60 #[.agg #[.string x0, .string x1], .pointer (some ⟨p, 0, none⟩)] w fun e w' => e = .returned (.bool (x0.toList == nm.toList)) ∧ Below w.heap.size w w' := by
 have hu := Tryd.underlying48
 have hc := zah (zaI hp (.cells #[.string x0, .string x1] 48 (0, 0))) 0
 simp only [List.getElem?_toArray, List.getElem?_cons_zero] at hc
 have HP := zaa.mk hp
 clear hp
 go_enter Tryd.func60, Tryd.ntmps60
 go_wp2
 go_ret
 exact ⟨rfl, (Below.refl _ _).alloc (Nat.le_refl _) _⟩
theorem zhP (A0 : Option Addr) (c0 : Nat) (l0 : List (S48)) (nm : ByteArray) (p : Nat) (w : World) (hr0 : Kd.C k48 w A0 l0.length l0) (hl : l0.length < 4398046511104) (hp : w.heap[p]? = some (.cells #[.string nm] 9 (0, 0))) :
  Calls Tryd.prog 77 #[.slice A0 l0.length c0, .func (.func 60) #[] #[.pointer (some ⟨p, 0, none⟩)]] w fun e w' => e = .returned (.int .i64 (idxV nm l0 0)) ∧ Below w.heap.size w w' := by
 have HR0 := zaa.mk hr0
 have HP := zaa.mk hp
 have hu := Tryd.underlying48
 obtain ⟨r, hr⟩ : ∃ r, r = idxV nm l0 0 := ⟨_, rfl⟩
 rw [← hr]
 have HH := zaa.mk hr.symm
 clear hr0 hp hr
 go_enter Tryd.func77, Tryd.ntmps77
 go_wp2
 go_loopw [8] (fun v8 wr => ∃ i : Nat, i ≤ l0.length ∧ v8 = .int .i64 i ∧ zaa (idxV nm (l0.drop i) i = r ∧ Below w.heap.size w wr)) (fun v8 _ => l0.length - (intOf v8).toNat)
 case atStart => exact ⟨0, Nat.zero_le _, rfl, ⟨HH.out, Below.refl _ _⟩⟩
 case round =>
  obtain ⟨i, hi, rfl, ⟨hI, hB⟩⟩ := hrel
  have HB := zaa.mk hB
  by_cases hlt : i < l0.length
  ·
   obtain ⟨ad, hA, x0, x1⟩ := zcM (Kd.zay HR0.out hB) (i : Int) o9 o9
   simp only [Int.toNat_natCast] at x0 x1
   have HA := zhf nm l0 i hlt
   rw [hI] at HA
   obtain ⟨x, hx⟩ : ∃ x, x = za1 l0 (i : Int) := ⟨_, rfl⟩
   rw [← hx] at HA x0 x1
   have HPR := zaa.mk ((hB.block p (zam HP.out)).trans HP.out)
   clear hx hI hB
   subst hA
   by_cases he : x.f0.toList = nm.toList
   ·
    rw [if_pos he] at HA
    have HQ := zaa.mk (show (x.f0.toList == nm.toList) = true by simpa using he)
    subst HA
    clear he
    go_wp2_with fail
    refine (isV nm p x.f0 x.f1 _ HPR.out).mono ?_
    rintro e w2 ⟨rfl, hb⟩
    rw [HQ.out]
    have HB2 := zaa.mk (HB.out.trans (hb.mono HB.out.size))
    clear hb
    go_wp2_with fail
    go_ret
    exact ⟨rfl, HB2.out⟩
   ·
    rw [if_neg he] at HA
    have HQ := zaa.mk (show (x.f0.toList == nm.toList) = false by simpa using he)
    have HA2 := zaa.mk HA.symm
    clear he HA
    go_wp2_with fail
    refine (isV nm p x.f0 x.f1 _ HPR.out).mono ?_
    rintro e w2 ⟨rfl, hb⟩
    rw [HQ.out]
    have HB2 := zaa.mk (HB.out.trans (hb.mono HB.out.size))
    clear hb
    go_wp2_with fail
    go_roundw
    case rel => exact ⟨i + 1, by omega, by go_num, ⟨HA2.out, HB2.out⟩⟩
    case measure => simp [intOf]; omega
  ·
   have hi2 : i = l0.length := by omega
   rw [hi2, List.drop_length] at hI
   have HA2 := zaa.mk hI
   clear hI hi2 hB
   go_wp2_with fail
   go_ret
   exact ⟨by rw [← HA2.out]; rfl, HB.out⟩
def zfi (s : ByteArray) (l : List (S48)) : S48 := if idxV s l 0 < 0 then z48 else za1 l (idxV s l 0)
theorem findV (A0 : Option Addr) (c0 : Nat) (l0 : List (S48)) (nm : ByteArray) (p : Nat) (w : World) (hr0 : Kd.C k48 w A0 l0.length l0) (hl : l0.length < 4398046511104) (hp : w.heap[p]? = some (.cells #[.string nm] 9 (0, 0))) :
  Calls Tryd.prog 59 #[.slice A0 l0.length c0, .func (.func 60) #[] #[.pointer (some ⟨p, 0, none⟩)]] w fun e w' => ∃ y, y = zfi nm l0 ∧  e = .returned (.tuple #[.agg #[.string y.f0, .string y.f1], .int .i64 (if idxV nm l0 0 < 0 then 0 else idxV nm l0 0), .bool (!decide (idxV nm l0 0 < 0))]) ∧ Below w.heap.size w w' := by
 have hu := Tryd.underlying48
 have HI := zaa.mk (zhP A0 c0 l0 nm p (w.alloc (.cells #[.string ⟨#[]⟩, .string ⟨#[]⟩] 48 (0, 0))) (Kd.zay hr0 ((Below.refl _ _).alloc (Nat.le_refl _) _)) hl (zaI hp _))
 have HR0 := zaa.mk hr0
 have hrange := zgf nm l0 0
 unfold zfi
 obtain ⟨r, hr⟩ : ∃ r, r = idxV nm l0 0 := ⟨_, rfl⟩
 rw [← hr] at HI hrange ⊢
 clear hr0 hp hr
 by_cases hneg : r < 0
 ·
  rw [if_pos hneg, if_pos hneg]
  have hd : decide (r < 0) = true := by simpa using hneg
  rw [hd]
  clear hrange
  go_enter Tryd.func59, Tryd.ntmps59
  go_wp2_with fail
  refine HI.out.mono ?_
  rintro e w1 ⟨rfl, hb⟩
  have HB1 := zaa.mk (((Below.refl w.heap.size w).alloc (Nat.le_refl _) (.cells #[.string ⟨#[]⟩, .string ⟨#[]⟩] 48 (0, 0))).trans (hb.mono s9))
  have hg1 := (hb.block w.heap.size s9).trans (at_new w (.cells #[.string ⟨#[]⟩, .string ⟨#[]⟩] 48 (0, 0)) rfl)
  have HG1 := zaa.mk hg1
  have g0 := zah hg1 0
  have f0 := free_at hg1 0
  have g1 := zah hg1 1
  have f1 := free_at hg1 1
  simp only [List.getElem?_toArray, List.getElem?_cons_zero, List.getElem?_cons_succ] at g0 g1
  clear hb hg1 HI
  go_wp2_with fail
  refine bodyPost_ret (zbK rfl _ _ w.heap.size 48 #[.string ⟨#[]⟩, .string ⟨#[]⟩] (0, 0) _ rfl ?_ Tryd.underlying48 rfl k9) rfl ⟨z48, rfl, rfl, ?_⟩
  ·
   exact (zaK (zaK HG1.out 0 _ rfl) 1 _ rfl)
  ·
   exact (zau (zau HB1.out (Nat.le_refl _)) (Nat.le_refl _))
 ·
  rw [if_neg hneg, if_neg hneg]
  have hd : decide (r < 0) = false := by simpa using hneg
  rw [hd]
  obtain ⟨m, rfl⟩ : ∃ m : Nat, r = m := ⟨r.toNat, by omega⟩
  have hm : m < l0.length := by omega
  obtain ⟨y, hy⟩ : ∃ y, y = za1 l0 (m : Int) := ⟨_, rfl⟩
  rw [← hy]
  have HY := zaa.mk hy
  clear hrange hy
  go_enter Tryd.func59, Tryd.ntmps59
  go_wp2_with fail
  refine HI.out.mono ?_
  rintro e w1 ⟨rfl, hb⟩
  have HB1 := zaa.mk (((Below.refl w.heap.size w).alloc (Nat.le_refl _) (.cells #[.string ⟨#[]⟩, .string ⟨#[]⟩] 48 (0, 0))).trans (hb.mono s9))
  have hg1 := (hb.block w.heap.size s9).trans (at_new w (.cells #[.string ⟨#[]⟩, .string ⟨#[]⟩] 48 (0, 0)) rfl)
  have HG1 := zaa.mk hg1
  have g0 := zah hg1 0
  have f0 := free_at hg1 0
  have g1 := zah hg1 1
  have f1 := free_at hg1 1
  simp only [List.getElem?_toArray, List.getElem?_cons_zero, List.getElem?_cons_succ] at g0 g1
  have HB0 := zaa.mk (show Below w.heap.size w w1 from HB1.out)
  obtain ⟨ad, hA, x0, x1⟩ := zcM HR0.out (m : Int) o9 o9
  replace x0 := (HB1.out.cell (block_lt_of_cell x0)).trans x0
  replace x1 := (HB1.out.cell (block_lt_of_cell x1)).trans x1
  simp only [Int.toNat_natCast] at x0 x1
  rw [← HY.out] at x0 x1
  skip
  clear hb hg1 HI
  subst hA
  go_wp2_with fail
  refine bodyPost_ret (zbK rfl _ _ w.heap.size 48 #[.string y.f0, .string y.f1] (0, 0) _ rfl ?_ Tryd.underlying48 rfl k9) rfl ⟨y, rfl, rfl, ?_⟩
  ·
   exact (zaK (zaK HG1.out 0 _ rfl) 1 _ rfl)
  ·
   exact (zau (zau HB1.out (Nat.le_refl _)) (Nat.le_refl _))
def idxS (s : ByteArray) : List (S51) → Nat → Int
 | [], _ => -1
 | x :: r, i => if x.f0.toList = s.toList then (i : Int) else idxS s r (i + 1)
theorem zg2 (s : ByteArray) (l : List (S51)) (i : Nat) (h : i < l.length) : idxS s (l.drop i) i = if (zaQ l (i : Int)).f0.toList = s.toList then (i : Int) else idxS s (l.drop (i + 1)) (i + 1) := by
 rw [List.drop_eq_getElem_cons h]
 unfold zaQ
 rw [Int.toNat_natCast, List.getD_eq_getElem?_getD, List.getElem?_eq_getElem h]; rfl
theorem zga (s : ByteArray) : ∀ (l : List (S51)) (i : Nat), idxS s l i = -1 ∨ ((i : Int) ≤ idxS s l i ∧ idxS s l i < i + l.length)
 | [], i => .inl rfl
 | x :: r, i => by
  unfold idxS
  by_cases h : x.f0.toList = s.toList
  ·
   rw [if_pos h]; right; simp; omega
  ·
   rw [if_neg h]
   rcases zga s r (i + 1) with q | ⟨q1, q2⟩
   ·
    exact .inl q
   ·
    right; simp; omega
theorem isS (nm : ByteArray) (p : Nat) (x0 : ByteArray) (A1 : Option Addr) (n1 c1 : Nat) (x2 : ByteArray) (w : World) (hp : w.heap[p]? = some (.cells #[.string nm] 9 (0, 0))) : Calls Tryd.prog 62 #[.agg #[.string x0, .slice A1 n1 c1, .string x2], .pointer (some ⟨p, 0, none⟩)] w fun e w' => e = .returned (.bool (x0.toList == nm.toList)) ∧ Below w.heap.size w w' := by
 have hu := Tryd.underlying51
 have hc := zah (zaI hp (.cells #[.string x0, .slice A1 n1 c1, .string x2] 51 (0, 0))) 0
 simp only [List.getElem?_toArray, List.getElem?_cons_zero] at hc
 have HP := zaa.mk hp
 clear hp
 go_enter Tryd.func62, Tryd.ntmps62
 go_wp2
 go_ret
 exact ⟨rfl, (Below.refl _ _).alloc (Nat.le_refl _) _⟩
theorem zhF (A0 : Option Addr) (c0 : Nat) (l0 : List (S51)) (nm : ByteArray) (p : Nat) (w : World) (hr0 : Kd.C k51 w A0 l0.length l0) (hl : l0.length < 4398046511104) (hp : w.heap[p]? = some (.cells #[.string nm] 9 (0, 0))) :
  Calls Tryd.prog 66 #[.slice A0 l0.length c0, .func (.func 62) #[] #[.pointer (some ⟨p, 0, none⟩)]] w fun e w' => e = .returned (.int .i64 (idxS nm l0 0)) ∧ Below w.heap.size w w' := by
 have HR0 := zaa.mk hr0
 have HP := zaa.mk hp
 have hu := Tryd.underlying51
 obtain ⟨r, hr⟩ : ∃ r, r = idxS nm l0 0 := ⟨_, rfl⟩
 rw [← hr]
 have HH := zaa.mk hr.symm
 clear hr0 hp hr
 go_enter Tryd.func66, Tryd.ntmps66
 go_wp2
 go_loopw [8] (fun v8 wr => ∃ i : Nat, i ≤ l0.length ∧ v8 = .int .i64 i ∧ zaa (idxS nm (l0.drop i) i = r ∧ Below w.heap.size w wr)) (fun v8 _ => l0.length - (intOf v8).toNat)
 case atStart => exact ⟨0, Nat.zero_le _, rfl, ⟨HH.out, Below.refl _ _⟩⟩
 case round =>
  obtain ⟨i, hi, rfl, ⟨hI, hB⟩⟩ := hrel
  have HB := zaa.mk hB
  by_cases hlt : i < l0.length
  ·
   obtain ⟨ad, A1, c1, hA, x0, x1, x2, _⟩ := zdF (Kd.zay HR0.out hB) (i : Int) o9 o9
   simp only [Int.toNat_natCast] at x0 x1 x2
   have HA := zg2 nm l0 i hlt
   rw [hI] at HA
   obtain ⟨x, hx⟩ : ∃ x, x = zaQ l0 (i : Int) := ⟨_, rfl⟩
   rw [← hx] at HA x0 x1 x2
   have HPR := zaa.mk ((hB.block p (zam HP.out)).trans HP.out)
   clear hx hI hB
   subst hA
   by_cases he : x.f0.toList = nm.toList
   ·
    rw [if_pos he] at HA
    have HQ := zaa.mk (show (x.f0.toList == nm.toList) = true by simpa using he)
    subst HA
    clear he
    go_wp2_with fail
    refine (isS nm p x.f0 A1 x.f1.length c1 x.f2 _ HPR.out).mono ?_
    rintro e w2 ⟨rfl, hb⟩
    rw [HQ.out]
    have HB2 := zaa.mk (HB.out.trans (hb.mono HB.out.size))
    clear hb
    go_wp2_with fail
    go_ret
    exact ⟨rfl, HB2.out⟩
   ·
    rw [if_neg he] at HA
    have HQ := zaa.mk (show (x.f0.toList == nm.toList) = false by simpa using he)
    have HA2 := zaa.mk HA.symm
    clear he HA
    go_wp2_with fail
    refine (isS nm p x.f0 A1 x.f1.length c1 x.f2 _ HPR.out).mono ?_
    rintro e w2 ⟨rfl, hb⟩
    rw [HQ.out]
    have HB2 := zaa.mk (HB.out.trans (hb.mono HB.out.size))
    clear hb
    go_wp2_with fail
    go_roundw
    case rel => exact ⟨i + 1, by omega, by go_num, ⟨HA2.out, HB2.out⟩⟩
    case measure => simp [intOf]; omega
  ·
   have hi2 : i = l0.length := by omega
   rw [hi2, List.drop_length] at hI
   have HA2 := zaa.mk hI
   clear hI hi2 hB
   go_wp2_with fail
   go_ret
   exact ⟨by rw [← HA2.out]; rfl, HB.out⟩
def zeG (s : ByteArray) (l : List (S51)) : S51 := if idxS s l 0 < 0 then z51 else zaQ l (idxS s l 0)
theorem findS (A0 : Option Addr) (c0 : Nat) (l0 : List (S51)) (nm : ByteArray) (p : Nat) (w : World) (hr0 : Kd.C k51 w A0 l0.length l0) (hl : l0.length < 4398046511104) (hp : w.heap[p]? = some (.cells #[.string nm] 9 (0, 0))) :
  Calls Tryd.prog 61 #[.slice A0 l0.length c0, .func (.func 62) #[] #[.pointer (some ⟨p, 0, none⟩)]] w fun e w' => ∃ y, y = zeG nm l0 ∧ ∃ (A1 : Option Addr) (c1 : Nat),  e = .returned (.tuple #[.agg #[.string y.f0, .slice A1 y.f1.length c1, .string y.f2], .int .i64 (if idxS nm l0 0 < 0 then 0 else idxS nm l0 0), .bool (!decide (idxS nm l0 0 < 0))]) ∧ y.f1.length ≤ c1 ∧ Kd.C k48 w' A1 y.f1.length y.f1 ∧ Below w.heap.size w w' := by
 have hu := Tryd.underlying51
 have HI := zaa.mk (zhF A0 c0 l0 nm p (w.alloc (.cells #[.string ⟨#[]⟩, .slice none 0 0, .string ⟨#[]⟩] 51 (0, 0))) (Kd.zay hr0 ((Below.refl _ _).alloc (Nat.le_refl _) _)) hl (zaI hp _))
 have HR0 := zaa.mk hr0
 have hrange := zga nm l0 0
 unfold zeG
 obtain ⟨r, hr⟩ : ∃ r, r = idxS nm l0 0 := ⟨_, rfl⟩
 rw [← hr] at HI hrange ⊢
 clear hr0 hp hr
 by_cases hneg : r < 0
 ·
  rw [if_pos hneg, if_pos hneg]
  have hd : decide (r < 0) = true := by simpa using hneg
  rw [hd]
  clear hrange
  go_enter Tryd.func61, Tryd.ntmps61
  go_wp2_with fail
  refine HI.out.mono ?_
  rintro e w1 ⟨rfl, hb⟩
  have HB1 := zaa.mk (((Below.refl w.heap.size w).alloc (Nat.le_refl _) (.cells #[.string ⟨#[]⟩, .slice none 0 0, .string ⟨#[]⟩] 51 (0, 0))).trans (hb.mono s9))
  have hg1 := (hb.block w.heap.size s9).trans (at_new w (.cells #[.string ⟨#[]⟩, .slice none 0 0, .string ⟨#[]⟩] 51 (0, 0)) rfl)
  have HG1 := zaa.mk hg1
  have g0 := zah hg1 0
  have f0 := free_at hg1 0
  have g1 := zah hg1 1
  have f1 := free_at hg1 1
  have g2 := zah hg1 2
  have f2 := free_at hg1 2
  simp only [List.getElem?_toArray, List.getElem?_cons_zero, List.getElem?_cons_succ] at g0 g1 g2
  clear hb hg1 HI
  go_wp2_with fail
  refine bodyPost_ret (zbK rfl _ _ w.heap.size 51 #[.string ⟨#[]⟩, .slice none 0 0, .string ⟨#[]⟩] (0, 0) _ rfl ?_ Tryd.underlying51 rfl k9) rfl ⟨z51, rfl, none, 0, rfl, Nat.le_refl _, Kd.C_nil _ _, ?_⟩
  ·
   exact (zaK (zaK (zaK HG1.out 0 _ rfl) 1 _ rfl) 2 _ rfl)
  ·
   exact (zau (zau (zau HB1.out (Nat.le_refl _)) (Nat.le_refl _)) (Nat.le_refl _))
 ·
  rw [if_neg hneg, if_neg hneg]
  have hd : decide (r < 0) = false := by simpa using hneg
  rw [hd]
  obtain ⟨m, rfl⟩ : ∃ m : Nat, r = m := ⟨r.toNat, by omega⟩
  have hm : m < l0.length := by omega
  obtain ⟨y, hy⟩ : ∃ y, y = zaQ l0 (m : Int) := ⟨_, rfl⟩
  rw [← hy]
  have HY := zaa.mk hy
  clear hrange hy
  go_enter Tryd.func61, Tryd.ntmps61
  go_wp2_with fail
  refine HI.out.mono ?_
  rintro e w1 ⟨rfl, hb⟩
  have HB1 := zaa.mk (((Below.refl w.heap.size w).alloc (Nat.le_refl _) (.cells #[.string ⟨#[]⟩, .slice none 0 0, .string ⟨#[]⟩] 51 (0, 0))).trans (hb.mono s9))
  have hg1 := (hb.block w.heap.size s9).trans (at_new w (.cells #[.string ⟨#[]⟩, .slice none 0 0, .string ⟨#[]⟩] 51 (0, 0)) rfl)
  have HG1 := zaa.mk hg1
  have g0 := zah hg1 0
  have f0 := free_at hg1 0
  have g1 := zah hg1 1
  have f1 := free_at hg1 1
  have g2 := zah hg1 2
  have f2 := free_at hg1 2
  simp only [List.getElem?_toArray, List.getElem?_cons_zero, List.getElem?_cons_succ] at g0 g1 g2
  have HB0 := zaa.mk (show Below w.heap.size w w1 from HB1.out)
  obtain ⟨ad, A1, c1, hA, x0, x1, x2, l1, C1⟩ := zdF HR0.out (m : Int) o9 o9
  replace x0 := (HB1.out.cell (block_lt_of_cell x0)).trans x0
  replace x1 := (HB1.out.cell (block_lt_of_cell x1)).trans x1
  replace x2 := (HB1.out.cell (block_lt_of_cell x2)).trans x2
  simp only [Int.toNat_natCast] at x0 x1 x2
  rw [← HY.out] at x0 x1 x2 l1 C1
  skip
  have H1 := zaa.mk C1
  clear C1
  clear hb hg1 HI
  subst hA
  go_wp2_with fail
  refine bodyPost_ret (zbK rfl _ _ w.heap.size 51 #[.string y.f0, .slice A1 y.f1.length c1, .string y.f2] (0, 0) _ rfl ?_ Tryd.underlying51 rfl k9) rfl ⟨y, rfl, A1, c1, rfl, l1, Kd.zay H1.out (zau (zau (zau HB1.out (Nat.le_refl _)) (Nat.le_refl _)) (Nat.le_refl _)), ?_⟩
  ·
   exact (zaK (zaK (zaK HG1.out 0 _ rfl) 1 _ rfl) 2 _ rfl)
  ·
   exact (zau (zau (zau HB1.out (Nat.le_refl _)) (Nat.le_refl _)) (Nat.le_refl _))
def at1 (l : List (S43)) (nm : ByteArray) : Int := if idxC nm l 0 < 0 then 0 else idxC nm l 0
def is1 (l : List (S43)) (nm : ByteArray) : Bool := !decide (idxC nm l 0 < 0)
theorem zbL (A0 : Option Addr) (c0 : Nat) (l0 : List (S43)) (nm : ByteArray) (w : World) (hr0 : Kd.C k43 w A0 l0.length l0) (hl : l0.length < 4398046511104) :
  Calls Tryd.prog 14 #[.slice A0 l0.length c0, .string nm] w fun e w' => e = .returned (.tuple #[.int .i64 (at1 l0 nm), .bool (is1 l0 nm)]) ∧ Below w.heap.size w w' := by
 have hmf : ∀ (fn : Fn) (first cap : Array Value) (w : World), (Instr.makeFunc fn first cap).run Tryd.prog w = .ok (.func fn first cap) w := fun _ _ _ _ => rfl
 have hu := Tryd.underlying43
 have HF := zaa.mk (findC A0 c0 l0 nm w.heap.size (w.alloc (.cells #[.string nm] 9 (0, 0))) (Kd.zay hr0 ((Below.refl _ _).alloc (Nat.le_refl _) _)) hl (at_new w _ rfl))
 unfold at1 is1
 obtain ⟨r, hr⟩ : ∃ r, r = (if idxC nm l0 0 < 0 then 0 else idxC nm l0 0) := ⟨_, rfl⟩
 obtain ⟨b, hb⟩ : ∃ b, b = !decide (idxC nm l0 0 < 0) := ⟨_, rfl⟩
 rw [← hr, ← hb] at HF ⊢
 clear hr hb hr0
 go_enter Tryd.func14, Tryd.ntmps14
 go_wp2_with fail
 refine HF.out.mono ?_
 rintro e w1 ⟨y, hy, A2, c2, A3, c3, rfl, h2, h3, h4, h5, hb1⟩
 have HB1 := zaa.mk (((Below.refl w.heap.size w).alloc (Nat.le_refl _) (.cells #[.string nm] 9 (0, 0))).trans (hb1.mono s9))
 clear hy h2 h3 h4 h5 hb1 HF
 go_wp2_with fail
 go_ret2
 exact ⟨rfl, HB1.out.alloc HB1.out.size _⟩
section
variable {F : Fence} {n : Nat} {P : Program} {ops : Array Oper} {rest : List Oper} {o : Oper} {a : Act} {Q : Exit → Act → World → Prop} {α : Type}
theorem zcI (enc : α → Value) {h1c : ∀ x, (enc x).oneCell' = true} (W : World) (hgd : o.guard = none) (s x : Operand) (t e : TypeId) (z : Value) (bytes : Nat)
  (ho : o.op = .call { callee := .builtin .append, args := #[s, x], argTypes := #[t, t] })
  (ht : P.underlying t = some (.slice e)) (hinfo : (P.info? e).map (fun i => (i.zero, i.size, i.bytes)) = some (some z, 1, bytes)) (hz : z.cells.size = 1) (hb0 : 0 < bytes)
  (base : Nat) (ok : Nat → Prop) (v : Value) (xs : List α) (p : α) (g c : Nat) (hs : a.eval s = v) (hx : a.eval x = .slice (some ⟨g, 0, none⟩) 1 c) (hg : W.cell? ⟨g, 0, none⟩ = some (enc p))
  (HO : (Kd.scalar enc h1c).R e W base ok v xs) (hbase : base ≤ W.heap.size) (hl : (xs.length + 1) * bytes ≤ 140737488355328)
  (h : ∀ v1 w1, (Kd.scalar enc h1c).R e w1 base (fun k => ok k ∨ W.heap.size ≤ k) v1 (xs ++ [p]) → W.grownBy w1 v.ownBlock → wpListIn F n P ops Q rest (a.put o.dst v1) w1) :
  wpListIn F n P ops Q (o :: rest) a W := by
 obtain ⟨i0, hi, hzz⟩ := Option.map_eq_some_iff.1 hinfo
 simp only [Prod.mk.injEq] at hzz
 obtain ⟨hz0, hz1, hz2⟩ := hzz
 have hlen : xs.length + 1 ≤ 140737488355328 := Nat.le_trans (Nat.le_mul_of_pos_right _ hb0) hl
 have hown := Kd.zcc HO
 obtain ⟨v1, w1, hrun, r1, r2, _, hat⟩ := run_append_own_at (P := P) W base t o.type e i0 z 1 bytes ht hi hz0 hz1 hz2 hz o9 v xs.length (encs enc xs) hown ⟨g, 0, none⟩ 1 c [enc p] rfl
  (fun j u hj => by
   cases j with
   | zero => simp only [List.getElem?_cons_zero, Option.some.injEq] at hj; subst hj; exact hg
   | succ j => simp at hj)
  (fun u hu => by rw [List.mem_singleton.1 hu]; exact h1c p) (by simp only [maxLen]; omega) hl hbase
 refine wpListIn_plain hgd fun K hK' => ?_
 unfold Oper.wpIn
 refine ⟨?_, ?_⟩
 ·
  simp [Oper.about, ho, resolve, Target.leads, Sem.run_pure]
 ·
  rw [Oper.semAt_plain F _ _ (by rw [ho]; intro c hc'; cases hc')]
  simp [execOp, ho, resolve, invoke, builtin, hs, hx, hrun, Result.andThen]
  refine hK' _ _ (h v1 w1 (Kd.zca ?_ (fun k hk => ?_)) r2)
  ·
   rw [List.length_append]
   have he : encs enc (xs ++ [p]) = encs enc xs ++ [enc p] := by simp [encs]
   rw [he]; exact r1
  ·
   rcases hat with e1 | e1
   ·
    exact .inl (HO.1 k (by rw [← e1]; exact hk))
   ·
    rw [e1] at hk
    injection hk with hk
    right; omega
end
def idxN (s : ByteArray) : List ByteArray → Nat → Int
 | [], _ => -1
 | x :: r, i => if s.toList = x.toList then (i : Int) else idxN s r (i + 1)
theorem zhj (s : ByteArray) (l : List ByteArray) (i : Nat) (h : i < l.length) : idxN s (l.drop i) i = if s.toList = (rdOf ByteArray.empty l (i : Int)).toList then (i : Int) else idxN s (l.drop (i + 1)) (i + 1) := by
 rw [List.drop_eq_getElem_cons h]
 unfold rdOf
 rw [Int.toNat_natCast, List.getD_eq_getElem?_getD, List.getElem?_eq_getElem h]; rfl
def hasN (s : ByteArray) (l : List ByteArray) : Bool := decide (idxN s l 0 ≥ 0)
theorem zff (s : ByteArray) : ∀ (l : List ByteArray) (i : Nat), decide (idxN s l i ≥ 0) = l.any fun x => decide (s.toList = x.toList)
 | [], i => rfl
 | x :: r, i => by
  unfold idxN
  by_cases h : s.toList = x.toList
  ·
   simp [h]
  ·
   rw [if_neg h, zff s r (i + 1)]; simp [h]
theorem zgI (s : ByteArray) (l : List ByteArray) : hasN s l = l.any fun x => decide (s.toList = x.toList) := zff s l 0
theorem zev (A0 : Option Addr) (c0 : Nat) (l0 : List ByteArray) (a1 : ByteArray) (w : World) (hr0 : Kd.C Kd.string w A0 l0.length l0) (hl : l0.length < 4398046511104) :
  Calls Tryd.prog 55 #[.slice A0 l0.length c0, .string a1] w fun e w' => e = .returned (.int .i64 (idxN a1 l0 0)) ∧ w' = w := by
 obtain ⟨r, hr⟩ : ∃ r, r = idxN a1 l0 0 := ⟨_, rfl⟩
 rw [← hr]
 have HH := zaa.mk hr.symm
 have HR0 := zaa.mk hr0
 clear hr0 hr
 go_enter Tryd.func55, Tryd.ntmps55
 go_wp2
 go_loop [8] (fun v8 => ∃ i : Nat, i ≤ l0.length ∧ v8 = .int .i64 i ∧ zaa (idxN a1 (l0.drop i) i = r)) (fun v8 => l0.length - (intOf v8).toNat)
 case atStart => exact ⟨0, Nat.zero_le _, rfl, HH⟩
 case round =>
  obtain ⟨i, hi, rfl, HI⟩ := hrel
  by_cases hlt : i < l0.length
  ·
   obtain ⟨ad, hA, x0⟩ := Kd.zdG HR0.out (i : Int) o9 o9
   rw [Int.toNat_natCast] at x0
   have HA := zhj a1 l0 i hlt
   rw [HI.out] at HA
   obtain ⟨x, hx⟩ : ∃ x, x = rdOf ByteArray.empty l0 (i : Int) := ⟨_, rfl⟩
   rw [← hx] at HA x0
   clear hx
   subst hA
   by_cases he : a1.toList = x.toList
   ·
    rw [if_pos he] at HA
    have hq : (a1.toList == x.toList) = true := by simpa using he
    subst HA
    clear he
    go_wp2
    go_ret
    exact ⟨rfl, rfl⟩
   ·
    rw [if_neg he] at HA
    have hq : (a1.toList == x.toList) = false := by simpa using he
    have HA2 := zaa.mk HA.symm
    clear he HA
    go_wp2
    go_round
    case rel => exact ⟨i + 1, by omega, by go_num, HA2⟩
    case measure => simp [intOf]; omega
  ·
   have hi2 : i = l0.length := by omega
   have HA := HI.out
   rw [hi2, List.drop_length] at HA
   have HA2 := zaa.mk HA
   clear HA hi2
   go_wp2
   go_ret
   exact ⟨by rw [← HA2.out]; rfl, rfl⟩
theorem zbk (A0 : Option Addr) (c0 : Nat) (l0 : List ByteArray) (a1 : ByteArray) (w : World) (hr0 : Kd.C Kd.string w A0 l0.length l0) (hl : l0.length < 4398046511104) :
  Calls Tryd.prog 33 #[.slice A0 l0.length c0, .string a1] w fun e w' => e = .returned (.bool (hasN a1 l0)) ∧ w' = w := by
 unfold hasN
 have HI := zaa.mk (zev A0 c0 l0 a1 w hr0 hl)
 obtain ⟨r, hr⟩ : ∃ r, r = idxN a1 l0 0 := ⟨_, rfl⟩
 rw [← hr] at HI ⊢
 clear hr0 hr
 go_enter Tryd.func33, Tryd.ntmps33
 go_wp2_with fail
 refine HI.out.mono ?_
 rintro e w1 ⟨rfl, rfl⟩
 clear HI
 go_wp2_with fail
 go_ret
 exact ⟨rfl, rfl⟩
theorem zc9 {s s' : ByteArray} (h : s.toList = s'.toList) : ∀ (l : List (S43)) (i : Nat), idxC s l i = idxC s' l i
 | [], _ => rfl
 | x :: r, i => by unfold idxC; rw [h, zc9 h r (i + 1)]
def clsAt (t : List (S43)) (p : Nat) : S43 := zbF t (p : Int)
theorem zfz (x : S43) (r : List (S43)) (p : Nat) : clsAt (x :: r) (p + 1) = clsAt r p := by
 unfold clsAt zbF
 rw [Int.toNat_natCast, Int.toNat_natCast]; rfl
theorem zeA (s : ByteArray) : ∀ (l : List (S43)) (i : Nat), 0 ≤ idxC s l i → ∃ j, j < l.length ∧ idxC s l i = ((i + j : Nat) : Int) ∧ (clsAt l j).f0.toList = s.toList
 | [], i, h => by simp [idxC] at h
 | x :: r, i, h => by
  unfold idxC at h ⊢
  by_cases hx : x.f0.toList = s.toList
  ·
   rw [if_pos hx]; exact ⟨0, by simp, by simp, hx⟩
  ·
   rw [if_neg hx] at h ⊢
   obtain ⟨j, h1, h2, h3⟩ := zeA s r (i + 1) h
   exact ⟨j + 1, by simp; omega, by rw [h2]; congr 1; omega, by rw [zfz]; exact h3⟩
theorem zcp (s : ByteArray) (t : List (S43)) (h : ¬ idxC s t 0 < 0) : (idxC s t 0).toNat < t.length ∧ (clsAt t (idxC s t 0).toNat).f0.toList = s.toList ∧ idxC (clsAt t (idxC s t 0).toNat).f0 t 0 = ((idxC s t 0).toNat : Int) := by
 obtain ⟨j, h1, h2, h3⟩ := zeA s t 0 o9
 rw [Nat.zero_add] at h2
 rw [h2, Int.toNat_natCast]
 exact ⟨h1, h3, by rw [zc9 h3]; exact h2⟩
def lineP (t : List (S43)) : Nat → List Nat → ByteArray → List Nat
 | 0, _, _ => []
 | k + 1, pre, nm => if idxC nm t 0 < 0 then [] else if (idxC nm t 0).toNat ∈ pre then [] else (idxC nm t 0).toNat :: lineP t k (pre ++ [(idxC nm t 0).toNat]) (clsAt t (idxC nm t 0).toNat).f1
def lineL (t : List (S43)) (nm : ByteArray) : List Nat := lineP t (t.length + 1) [] nm
theorem zey : ∀ (l m : List Nat), l.Nodup → (∀ x ∈ l, x ∈ m) → l.length ≤ m.length
 | [], m, _, _ => by simp
 | x :: l, m, h, hm => by
  rw [List.nodup_cons] at h
  have := zey l (m.erase x) h.2 (fun y hy => (List.mem_erase_of_ne (fun e => by subst e; exact h.1 hy)).2 (hm y (List.mem_cons_of_mem _ hy)))
  have hx := hm x List.mem_cons_self
  rw [List.length_erase_of_mem hx] at this
  have := List.length_pos_of_mem hx
  simp only [List.length_cons]; omega
structure LineI (t : List (S43)) (pre : List Nat) : Prop where
 nd : pre.Nodup
 first : ∀ q ∈ pre, q < t.length ∧ idxC (clsAt t q).f0 t 0 = (q : Int)
theorem LineI.nil (t : List (S43)) : LineI t [] := ⟨List.nodup_nil, fun q h => by cases h⟩
theorem LineI.len {t : List (S43)} {pre : List Nat} (h : LineI t pre) : pre.length ≤ t.length := by
 have := zey pre (List.range t.length) h.nd (fun x hx => List.mem_range.2 (h.first x hx).1)
 simpa using this
theorem LineI.snoc {t : List (S43)} {pre : List Nat} (h : LineI t pre) (nm : ByteArray) (hn : ¬ idxC nm t 0 < 0) (hp : (idxC nm t 0).toNat ∉ pre) : LineI t (pre ++ [(idxC nm t 0).toNat]) := by
 obtain ⟨h1, _, h3⟩ := zcp nm t hn
 refine ⟨?_, fun q hq => ?_⟩
 ·
  rw [List.nodup_append]
  refine ⟨h.nd, by simp, fun a ha b hb => ?_⟩
  rw [List.mem_singleton] at hb
  rintro rfl
  exact hp (hb ▸ ha)
 ·
  rcases List.mem_append.1 hq with hq | hq
  ·
   exact h.first q hq
  ·
   rw [List.mem_singleton.1 hq]; exact ⟨h1, h3⟩
def came (t : List (S43)) (pre : List Nat) : List ByteArray := pre.map fun p => (clsAt t p).f0
theorem zf1 {t : List (S43)} {pre : List Nat} (h : LineI t pre) (nm : ByteArray) (hn : ¬ idxC nm t 0 < 0) : hasN nm (came t pre) = decide ((idxC nm t 0).toNat ∈ pre) := by
 obtain ⟨h1, h2, h3⟩ := zcp nm t hn
 rw [zgI, Bool.eq_iff_iff]
 simp only [came, List.any_map, List.any_eq_true, Function.comp_apply, decide_eq_true_eq]
 constructor
 ·
  rintro ⟨q, hq, he⟩
  have h4 := (h.first q hq).2
  rw [← zc9 he] at h4
  rw [h4, Int.toNat_natCast]; exact hq
 ·
  intro hq
  exact ⟨_, hq, h2.symm⟩
theorem zcd (t : List (S43)) : ∀ (k : Nat) (pre : List Nat) (nm : ByteArray) (q : Nat), q ∈ lineP t k pre nm → q < t.length
 | 0, _, _, q, h => by cases h
 | k + 1, pre, nm, q, h => by
  unfold lineP at h
  by_cases h1 : idxC nm t 0 < 0
  ·
   rw [if_pos h1] at h; cases h
  ·
   rw [if_neg h1] at h
   by_cases h2 : (idxC nm t 0).toNat ∈ pre
   ·
    rw [if_pos h2] at h; cases h
   ·
    rw [if_neg h2] at h
    rcases List.mem_cons.1 h with rfl | h
    ·
     exact (zcp nm t h1).1
    ·
     exact zcd t k _ _ q h
end Go.Proofs.YtfhgmebhdchegaaDoorTab
end

section
namespace Go.Proofs.YtfhgmebhdchegaaDoorTab
open Go.RowKit Go.Proofs.YtfhgmebhdchegaaDoor.PAll Go.Proofs.YtfhgmebhdchegaaDoorW.zai Go.Proofs.YtfhgmebhdchegaaDoorW.zas Go.Proofs.YtfhgmebhdchegaaDoorRF Go.Proofs.YtfhgmebhdchegaaDoorRG
theorem infoS : (Tryd.prog.info? 9).map (fun i => (i.zero, i.size, i.bytes)) = some (some (.string ⟨#[]⟩), 1, 16) := by kernel_rfl
attribute [local go_sem] Oper.semAt_some
theorem zdb (A0 : Option Addr) (n0 c0 : Nat) (nm : ByteArray) (w : World) :
  Calls Tryd.prog 56 #[.slice A0 n0 c0, .string nm] w fun e w' => e = .returned (.func (.func 75) #[] #[.pointer (some ⟨w.heap.size, 0, none⟩), .pointer (some ⟨w.heap.size + 1, 0, none⟩)]) ∧
   w' = (w.alloc (.cells #[.slice A0 n0 c0] 25)).alloc (.cells #[.string nm] 9) := by
 go_enter Tryd.func56, Tryd.ntmps56
 go_wp2
 go_ret
 exact ⟨rfl, rfl⟩
theorem toList_inj {a b : ByteArray} (h : a.toList = b.toList) : a = b := by
 have h2 : a.data.toList = b.data.toList := by rw [Go.ByteArray.toList_eq, Go.ByteArray.toList_eq] at h; exact h
 exact ByteArray.ext (Array.toList_inj.1 h2)
def encP (A0 : Option Addr) (p : Nat) : Value := .pointer (A0.map fun ad => ad.add (p * 4))
structure LnI (t : List (S43)) (nm0 : ByteArray) (A0 : Option Addr) (c0 n₀ : Nat) (w : World) (Bt Bn : Nat) (J : List Nat → (Nat → Prop) → World → Prop) (v : Value) (pre : List Nat) (nm : ByteArray) (k : Nat) (O : Nat → Prop) (wr : World) : Prop where
 all : pre ++ lineP t k pre nm = lineL t nm0
 fuel : k + pre.length = t.length + 1
 lineI : LineI t pre
 j : J pre O wr
 lt : ∀ k, O k → k < wr.heap.size
 row : Kd.string.R 9 wr w.heap.size O v (came t pre)
 bt : wr.heap[Bt]? = some (.cells #[.slice A0 t.length c0] 25 (0, 0))
 bn : wr.heap[Bn]? = some (.cells #[.string nm] 9 (0, 0))
 bl : Below n₀ w wr
 ot : O Bt
 on : O Bn
theorem zcW (t : List (S43)) (pre : List Nat) : (came t pre).length = pre.length := by simp [came]
theorem LnI.pure {t : List (S43)} {nm0 : ByteArray} {A0 : Option Addr} {c0 n₀ : Nat} {w : World} {Bt Bn : Nat} {J : List Nat → (Nat → Prop) → World → Prop} {v : Value} {pre : List Nat} {nm : ByteArray} {k : Nat} {O : Nat → Prop} {wr w1 : World}
  (h : LnI t nm0 A0 c0 n₀ w Bt Bn J v pre nm k O wr) (hJ : Stable J) (hb : Below wr.heap.size wr w1) (hn₀ : n₀ ≤ w.heap.size) : LnI t nm0 A0 c0 n₀ w Bt Bn J v pre nm k O w1 :=
 ⟨h.all, h.fuel, h.lineI, hJ _ O O _ _ h.j (Mv.zbN hb O) (fun _ h => h) (fun _ h => .inl h), fun k hk => Nat.lt_of_lt_of_le (h.lt k hk) hb.size, Kd.zaY h.row hb,
  (hb.block Bt (zam h.bt)).trans h.bt, (hb.block Bn (zam h.bn)).trans h.bn, h.bl.trans (hb.mono (Nat.le_trans hn₀ h.bl.size)), h.ot, h.on⟩
theorem LnI.more {t : List (S43)} {nm0 : ByteArray} {A0 : Option Addr} {c0 n₀ : Nat} {w : World} {Bt Bn : Nat} {J : List Nat → (Nat → Prop) → World → Prop} {v : Value} {pre : List Nat} {nm : ByteArray} {k : Nat} {O : Nat → Prop} {wr : World}
  (h : LnI t nm0 A0 c0 n₀ w Bt Bn J v pre nm k O wr) : ∃ k', k = k' + 1 := by
 have := h.fuel
 have := h.lineI.len
 exact ⟨k - 1, by omega⟩
theorem zfV {t : List (S43)} {nm : ByteArray} (h : idxC nm t 0 < 0) : at1 t nm = 0 ∧ is1 t nm = false := by unfold at1 is1; simp [h]
theorem zgo {t : List (S43)} {nm : ByteArray} (h : ¬ idxC nm t 0 < 0) : at1 t nm = ((idxC nm t 0).toNat : Int) ∧ is1 t nm = true := by unfold at1 is1; simp [h]; omega
theorem zdi (n : Nat) (hn : 2 ≤ n) (A0 : Option Addr) (c0 : Nat) (t : List (S43)) (nm0 : ByteArray) (Bt Bn n₀ : Nat) (w : World) (hr : Kd.C k43 w A0 t.length t) (hn₀ : n₀ ≤ w.heap.size)
  (hC : ∀ w', Below n₀ w w' → Kd.C k43 w' A0 t.length t) (hlt : t.length < 4398046511104) (hbt : n₀ ≤ Bt) (hbn : n₀ ≤ Bn) (hne : Bt ≠ Bn)
  (hBt : w.heap[Bt]? = some (.cells #[.slice A0 t.length c0] 25 (0, 0))) (hBn : w.heap[Bn]? = some (.cells #[.string nm0] 9 (0, 0))) :
  Iter Fence.wide n Tryd.prog 75 #[.pointer (some ⟨Bt, 0, none⟩), .pointer (some ⟨Bn, 0, none⟩)] (fun p : Nat => #[encP A0 p]) (fun l => l <+: lineL t nm0) (fun l => l = lineL t nm0) (fun k => k = Bt ∨ k = Bn) (fun k => k < n₀) w := by
 intro l J Jx O W hJ hJx hY hmv hO hOl h0
 have hn1 : 1 ≤ n - 1 := by omega
 have hB1 := hmv.at hBt (fun h => h)
 have hB2 := hmv.at hBn (fun h => h)
 have hu := Tryd.underlying43
 refine callsIn_of_wp Tryd.func75 rfl trivial ?_ rfl
 simp only [Tryd.ntmps75, List.size_toArray, List.length_cons, List.length_nil, Nat.reduceAdd, Nat.reduceSub, Array.replicate_succ, Array.replicate_zero, List.push_toArray, List.append_toArray, List.nil_append, List.cons_append]
 gi_wp2
 gi_loopw [4] (fun v4 wr => ∃ pre nm k O, (∃ A c, v4 = .slice A pre.length c) ∧ zaa (LnI t nm0 A0 c0 n₀ w Bt Bn J v4 pre nm k O wr))
  (fun v4 _ => t.length + 1 - (match v4 with | .slice _ m _ => m | _ => 0))
 case atStart => 
  refine ⟨[], nm0, t.length + 1, O, ⟨none, 0, rfl⟩, ⟨?_⟩⟩
  exact ⟨rfl, rfl, LineI.nil t, h0, hOl, Kd.R_nil _ _ _ _ _, hB1, hB2, hmv.below o9 (fun k h => h.elim), hO _ (.inl rfl), hO _ (.inr rfl)⟩
 case round =>
  obtain ⟨pre, nm, k, O, ⟨A, c, rfl⟩, ⟨hI⟩⟩ := hrel
  have hc1 := zah hI.bt 0
  have hc2 := zah hI.bn 0
  simp only [List.getElem?_toArray, List.getElem?_cons_zero] at hc1 hc2
  have HI := zaa.mk hI
  have HF := zaa.mk ((callsIn_wide (n := n - 1)).2 (zbL A0 c0 t nm wr (hC _ hI.bl) hlt))
  have HWB := zaa.mk (zam hBn)
  clear hI h0 hB1 hB2 hBt hBn
  gi_wp2
  refine ⟨trivial, fun _ => by omega, HF.out.mono ?_⟩
  rintro e w1 ⟨rfl, hb1⟩
  replace HI := zaa.mk (HI.out.pure hJ hb1 hn₀)
  clear hb1 HF hc1 hc2
  obtain ⟨k', rfl⟩ := HI.out.more
  by_cases hneg : idxC nm t 0 < 0
  ·
   rw [(zfV hneg).1, (zfV hneg).2]
   have HN := zaa.mk hneg
   clear hneg hY
   gi_wp2
   refine ⟨trivial, ?_⟩
   gi_wp2
   refine ⟨fun _ h => (by cases h), ?_⟩
   gi_wp2
   refine bodyPost_ret (results_none rfl _ _ _) rfl ?_
   refine ⟨⟨_, rfl⟩, .inl ⟨pre, O, ?_, HI.out.j, HI.out.lt⟩⟩
   have := HI.out.all
   unfold lineP at this
   rw [if_pos HN.out, List.append_nil] at this
   exact this
  ·
   rw [(zgo hneg).1, (zgo hneg).2]
   obtain ⟨p, hp⟩ : ∃ p, p = (idxC nm t 0).toNat := ⟨_, rfl⟩
   have HP := zaa.mk hp
   have HN := zaa.mk (show 0 ≤ idxC nm t 0 by omega)
   rw [← hp]
   clear hp hneg
   have hc2 := zah HI.out.bn 0
   have hc1 := zah HI.out.bt 0
   simp only [List.getElem?_toArray, List.getElem?_cons_zero] at hc1 hc2
   have hK := zbk A c (came t pre) nm w1 (by
    obtain ⟨A', c', e, _, h⟩ := Kd.zbB HI.out.row
    rw [zcW] at e
    cases e
    exact h) (by rw [zcW]; have := HI.out.lineI.len; omega)
   rw [zcW, zf1 HI.out.lineI nm (Int.not_lt.2 HN.out), ← HP.out] at hK
   have HK := zaa.mk ((callsIn_wide (n := n - 1)).2 hK)
   clear hK
   gi_wp2
   refine ⟨trivial, fun _ => by omega, HK.out.mono ?_⟩
   rintro e w2 ⟨rfl, rfl⟩
   clear HK
   by_cases hin : p ∈ pre
   ·
    rw [decide_eq_true hin]
    have HIN := zaa.mk hin
    clear hin hY
    gi_wp2
    refine ⟨fun _ h => (by cases h), ?_⟩
    gi_wp2
    refine bodyPost_ret (results_none rfl _ _ _) rfl ?_
    refine ⟨⟨_, rfl⟩, .inl ⟨pre, O, ?_, HI.out.j, HI.out.lt⟩⟩
    have := HI.out.all
    unfold lineP at this
    rw [if_neg (Int.not_lt.2 HN.out), ← HP.out, if_pos HIN.out, List.append_nil] at this
    exact this
   ·
    rw [decide_eq_false hin]
    have hall := HI.out.all
    unfold lineP at hall
    rw [if_neg (Int.not_lt.2 HN.out), ← HP.out, if_neg hin] at hall
    have hpl : p < t.length := by rw [HP.out]; exact (zcp nm t (Int.not_lt.2 HN.out)).1
    have HPL := zaa.mk hpl
    have HLI := zaa.mk (show LineI t (pre ++ [p]) by have := HI.out.lineI.snoc nm (Int.not_lt.2 HN.out); rw [← HP.out] at this; exact this hin)
    have HA := zaa.mk hall
    obtain ⟨ad, A2, c2, A3, c3, hA0, x0, x1, _⟩ := zb0 (hC _ HI.out.bl) (p : Int) o9 o9
    subst hA0
    obtain ⟨fn, tmps, assign, body, hy, hR⟩ := hY pre p O w2 HI.out.j ⟨_, by rw [← hall, List.append_assoc, List.singleton_append]⟩ HI.out.lt
    have HR := zaa.mk hR
    clear hR hY hpl hall hin
    simp only [encP, Option.map_some] at hy
    have pl0 : (0 : Int) ≤ (p : Int) := by omega
    have pl1 : (p : Int) < (t.length : Int) := by have := HPL.out; omega
    gi_wp2
    refine ⟨fun _ => by omega, HR.out.mono ?_⟩
    rintro e W3 (⟨rfl, hJ3, hm3⟩ | ⟨rfl, hJx3, hm3⟩)
    ·
     have hbt3 := hm3.at HI.out.bt (fun h => h.1 HI.out.ot)
     have hbn3 := hm3.at HI.out.bn (fun h => h.1 HI.out.on)
     have hrow3 : Kd.string.R 9 W3 w.heap.size O (.slice A pre.length c) (came t pre) := Kd.zbM HI.out.row (fun k ho hk => hm3.block k hk (fun h => h.1 ho))
     have hbl3 : Below n₀ w W3 := HI.out.bl.trans (hm3.below (Nat.le_trans hn₀ HI.out.bl.size) (fun k h => Nat.not_lt.1 h.2))
     have hol3 : ∀ k, O k → k < W3.heap.size := fun k hk => Nat.lt_of_lt_of_le (HI.out.lt k hk) hm3.size
     have HBT3 := zaa.mk hbt3
     have HBN3 := zaa.mk hbn3
     have HROW3 := zaa.mk hrow3
     have HBL3 := zaa.mk hbl3
     have HOL3 := zaa.mk hol3
     have HJ3 := zaa.mk hJ3
     have hc2 := zah hbn3 0
     simp only [List.getElem?_toArray, List.getElem?_cons_zero] at hc2
     clear x0 x1 hy hc1 hJ3 hm3 hbt3 hbn3 hrow3 hbl3 hol3
     have hinfo := infoS
     gi_wp2_with (gi_at_builtin; refine zcI Value.string (h1c := fun _ => rfl) _ rfl _ _ 56 9 (.string ⟨#[]⟩) 16 rfl Tryd.underlying56 infoS rfl d9 w.heap.size O (.slice A pre.length c) (came t pre) nm W3.heap.size 1 rfl rfl ?hg (Kd.zaH HROW3.out _) ?hb ?hl ?_)
     case hg => exact (zah (at_new W3 _ rfl) 0).trans rfl
     case hb => have := HBL3.out.size; simp; omega
     case hl => rw [zcW]; have := HLI.out.len; simp at this; omega
     intro v4 w4 hR4 hg4
     obtain ⟨W4, hW4⟩ : ∃ W4, W4 = W3.alloc (.cells #[.string nm] 9) := ⟨_, rfl⟩
     have hs4 : W4.heap.size = W3.heap.size + 1 := by rw [hW4]; simp
     rw [← hW4] at hg4
     have hown3 : Kd.string.R 9 W4 w.heap.size O (.slice A pre.length c) (came t pre) := by rw [hW4]; exact Kd.zaH HROW3.out _
     have hwb : Bn < w.heap.size := HWB.out
     have hrowO : ∀ k, (Value.slice A pre.length c).ownBlock = some k → O k ∧ w.heap.size ≤ k := fun k hk => by
      have := (Kd.za0 hown3).1 k hk
      exact ⟨this.1, this.2.1⟩
     have hbt4 : W4.heap[Bt]? = some (.cells #[.slice (some ad) t.length c0] 25 (0, 0)) := by rw [hW4]; exact zaI HBT3.out _
     have hbn4 : W4.heap[Bn]? = some (.cells #[.string nm] 9 (0, 0)) := by rw [hW4]; exact zaI HBN3.out _
     have hbt5 : w4.heap[Bt]? = some (.cells #[.slice (some ad) t.length c0] 25 (0, 0)) := (hg4.block Bt (zam hbt4) (Kd.R_ne hown3 hbt4 d9)).trans hbt4
     have hbn5 : w4.heap[Bn]? = some (.cells #[.string nm] 9 (0, 0)) := (hg4.block Bn (zam hbn4) (fun e => by have := (hrowO Bn e.symm).2; omega)).trans hbn4
     have hmv4 : Mv O W3 W4 := by rw [hW4]; exact (Mv.refl _ _).alloc _
     have hmv5 : Mv O W3 w4 := hmv4.grown hg4 (fun k e => .inl (hrowO k e).1)
     have hmn4 : Mv (fun k => n₀ ≤ k) W3 W4 := by rw [hW4]; exact (Mv.refl _ _).alloc _
     have hbl5 : Below n₀ w w4 := HBL3.out.trans ((hmn4.grown hg4 (fun k e => .inl (Nat.le_trans hn₀ (hrowO k e).2))).below (Nat.le_trans hn₀ HBL3.out.size) (fun _ h => h))
     have hrowB : ∀ k, (Value.slice A pre.length c).ownBlock = some k → k ≠ Bn := fun k e => by have := (hrowO k e).2; omega
     obtain ⟨ad', A2', c2', A3', c3', e', x0, x1, _⟩ := zb0 (hC _ hbl5) (p : Int) o9 (by have := HPL.out; omega)
     cases e'
     have pl1 : (p : Int) < (t.length : Int) := by have := HPL.out; omega
     have hc2 := zah hbn5 0
     have hf2 := free_at hbn5 0
     have hc1 := zah hbt5 0
     simp only [List.getElem?_toArray, List.getElem?_cons_zero] at hc1 hc2
     simp only [Int.toNat_natCast] at x0 x1
     obtain ⟨A4, c4, hv4⟩ := Kd.zaR hR4
     rw [List.length_append, zcW, List.length_singleton] at hv4
     subst hv4
     have HR4 := zaa.mk hR4
     have HBT5 := zaa.mk hbt5
     have HBN5 := zaa.mk hbn5
     have HMV5 := zaa.mk hmv5
     have HBL5 := zaa.mk hbl5
     have HS4 := zaa.mk hs4
     clear hR4 hg4 hown3 hrowO hbt4 hbn4 hbt5 hbn5 hmv4 hmv5 hbl5 hs4 x0 hinfo
     gi_wp2
     go_roundw
     case rel =>
      refine ⟨pre ++ [p], (clsAt t p).f1, k', fun k => O k ∨ (W3.heap.size ≤ k ∧ k < w4.heap.size), ⟨A4, c4, by simp⟩, ⟨?_⟩⟩
      have hmv6 := HMV5.out.setCell (p := ⟨Bn, 0, none⟩) (.inl HI.out.on) (.string (clsAt t p).f1)
      have hset : ∀ {k : Nat} {o : Obj}, w4.heap[k]? = some o → k ≠ Bn → (w4.setCell ⟨Bn, 0, none⟩ (.string (clsAt t p).f1)).heap[k]? = some o := fun h hk => at_set h (by simpa using hk) _
      refine ⟨?_, by have := HI.out.fuel; simp; omega, HLI.out, hJ _ _ _ _ _ HJ3.out hmv6 (fun _ h => .inl h) (fun k h => h.imp id (fun h => h.1)), ?_, ?_, hset HBT5.out hne, ?_, ?_, .inl HI.out.ot, .inl HI.out.on⟩
      ·
       rw [List.append_assoc, List.singleton_append]; exact HA.out
      ·
       intro k hk
       rcases hk with hk | hk
       ·
        have := HOL3.out k hk; have := HMV5.out.size; simp [World.setCell]; omega
       ·
        have := hk.2; simpa [World.setCell] using this
      ·
       have h1 : Kd.string.R 9 w4 w.heap.size (fun k => O k ∨ (W3.heap.size ≤ k ∧ k < w4.heap.size)) (.slice A4 (pre.length + 1) c4) (came t (pre ++ [p])) := by
        have h2 := Kd.zaz (Kd.za0 HR4.out) (ok' := fun k => O k ∨ (W3.heap.size ≤ k ∧ k < w4.heap.size)) (fun k hk => by
         rcases hk.1 with h | h
         ·
          exact .inl h
         ·
          exact .inr ⟨by omega, hk.2.2.1⟩)
        have e : came t (pre ++ [p]) = came t pre ++ [nm] := by
         have := (zcp nm t (Int.not_lt.2 HN.out)).2.1
         rw [← HP.out] at this
         simp [came, toList_inj this]
        rw [e]
        exact h2
       refine Kd.zaz (Kd.R_far (p := ⟨Bn, 0, none⟩) (Kd.za0 h1) (fun k hk => by have := hk.2.1; have := HWB.out; simp; omega) _) (fun _ hk => hk.1)
      ·
       exact (zbo HBN5.out 0 (.string (clsAt t p).f1)).trans s9
      ·
       exact HBL5.out.trans (((Mv.refl (fun k => n₀ ≤ k) _).setCell (.inl hbn) _).below (Nat.le_trans hn₀ HBL5.out.size) (fun _ h => h))
     case measure => simp; have := HLI.out.len; simp at this; omega
    ·
     have hJx3' := zaa.mk hJx3
     have hm3' := zaa.mk hm3
     clear hJx3 hm3 hy hc1 hc2
     gi_wp2
     refine bodyPost_ret (results_none rfl _ _ _) rfl ?_
     exact ⟨⟨_, rfl⟩, .inr ⟨_, O, hJx3'.out, fun j hj => Nat.lt_of_lt_of_le (HI.out.lt j hj) hm3'.out.size⟩⟩
end Go.Proofs.YtfhgmebhdchegaaDoorTab
end

section
namespace Go.Proofs.YtfhgmebhdchegaaDoorTab
open Go.RowKit Go.Proofs.YtfhgmebhdchegaaDoor.PAll Go.Proofs.YtfhgmebhdchegaaDoorW.zai Go.Proofs.YtfhgmebhdchegaaDoorW.zas Go.Proofs.YtfhgmebhdchegaaDoorRF Go.Proofs.YtfhgmebhdchegaaDoorRG Go.Shelf Go.Lib Go.Sort
attribute [local go_sem] Oper.semAt_some
theorem zgx (A0 : Option Addr) (blk cap : Nat) (d : Array Nat) (w : World) (hH : Holds (encP A0) w blk 0 d) (hsz : d.size ≤ 9223372036854775807) :
  Calls Tryd.prog 76 #[.slice (some ⟨blk, 0, none⟩) d.size cap] w fun e w' => e = .returned (.tuple #[]) ∧ ∃ n, w' = putRow (encP A0) (Sort.ahead w n) blk 0 d.reverse := by
 have mixed : Tryd.prog.follows .mixedOrders = true := by kernel_rfl
 go_enter Tryd.func76, Tryd.ntmps76
 go_wp2
 go_loopg [2, 3] d.size (fun k s2 s3 wr => ∃ (i jn : Nat) (jz : Int) (dk : Array Nat) (n : Nat), s2 = .int .i64 i ∧ s3 = .int .i64 jz ∧ ((i : Int) < jz → jz = jn ∧ jn < d.size) ∧ (¬ (i : Int) < jz → ¬ i < jn) ∧ jn - i ≤ k ∧
  dk.size = d.size ∧ wr = putRow (encP A0) (Sort.ahead w n) blk 0 dk ∧ reverseLoop i jn dk = reverseLoop 0 (d.size - 1) d)
 case atStart => exact ⟨0, d.size - 1, (d.size : Int) - 1, d, 0, rfl, rfl, fun h => ⟨by omega, by omega⟩, fun h => by omega, by omega, rfl, (putRow_self (encP A0) w blk 0 d hH).symm, rfl⟩
 case round =>
  obtain ⟨i, jn, jz, dk, n, rfl, rfl, h1, h2, hk, hds, hwr, heq⟩ := hrel
  by_cases hlt : (i : Int) < jz
  ·
   obtain ⟨rfl, hjn⟩ := h1 hlt
   have hij : i < jn := by omega
   have hHk : Holds (encP A0) wr blk 0 dk := by rw [hwr]; exact holds_putRow (encP A0) _ blk 0 d dk (holds_ahead (encP A0) w n blk 0 d hH) hds
   obtain ⟨ci, fi⟩ := hHk i o9
   obtain ⟨cj, fj⟩ := hHk jn o9
   simp only [Nat.zero_add] at ci fi cj fj
   have A : Aside (wr = putRow (encP A0) (Sort.ahead w n) blk 0 dk) := hwr
   clear hwr hHk hH h1 h2
   simp only [encP] at ci cj
   go_wp2_with fail
   go_region_o
   go_wp2
   go_roundg (jn - 1 - (i + 1))
   case measure => omega
   case rel =>
    rw [reverseLoop, if_pos hij] at heq
    have hj' : jn < dk.size := by omega
    have hsw := swap_world (encP A0) (i := i) (j := jn) o9 o9 A.out (x := .pointer (A0.map fun ad => ad.add (dk[jn]'hj' * 4))) (y := .pointer (A0.map fun ad => ad.add (dk[i]! * 4))) (by simp [encP, getElem!_pos, hj']) rfl
    simp only [Nat.zero_add] at hsw
    exact ⟨i + 1, jn - 1, (jn : Int) - 1, swp dk i jn, n + 1, by simp, rfl, fun h => ⟨by omega, by omega⟩, fun h => by omega, Nat.le_refl _, by rw [size_swp]; exact hds, hsw, heq⟩
  ·
   have hnot := h2 hlt
   go_wp2
   go_end0
   refine ⟨rfl, n, ?_⟩
   rw [reverseLoop, if_neg hnot] at heq
   rw [← Lib.reverseLoop_reverse, ← heq]
theorem zfO (a : Option Addr) (cap : Nat) (w : World) :
  Calls Tryd.prog 76 #[.slice a 0 cap] w fun e w' => e = .returned (.tuple #[]) ∧ w' = w := by
 go_enter Tryd.func76, Tryd.ntmps76
 go_wp2
 go_loopg [2, 3] 0 (fun _ s2 s3 wr => s2 = .int .i64 0 ∧ s3 = .int .i64 (-1) ∧ wr = w)
 case atStart => exact ⟨rfl, rfl, rfl⟩
 case round =>
  obtain ⟨rfl, rfl, rfl⟩ := hrel
  go_wp2
  go_end0
  exact ⟨rfl, rfl⟩
structure OutI {α : Type} (enc : α → Value) (h1 : ∀ x, (enc x).oneCell' = true) (T e n₀ : Nat) (w0 : World) (Bo : Nat) (pre : List α) (O : Nat → Prop) (W : World) : Prop where
 box : ∃ v, Mine Bo (.cells #[v] T (0, 0)) O W ∧ (Kd.scalar enc h1).R e W n₀ (fun k => ¬ O k) v pre
 bl : Below n₀ w0 W
 lo : ∀ k, O k → n₀ ≤ k
theorem OutI.stable {α : Type} (enc : α → Value) (h1 : ∀ x, (enc x).oneCell' = true) (T e n₀ : Nat) (w0 : World) (hn : n₀ ≤ w0.heap.size) (Bo : Nat) : Stable (OutI enc h1 T e n₀ w0 Bo) := fun s O O' W W' h hm h1' h2 => by
 obtain ⟨v, hb, hr⟩ := h.box
 have hst : Mine Bo (.cells #[v] T (0, 0)) O' W' := Mine.stable (β := Unit) (fun _ => _) (fun _ => _) () O O' W W' hb hm h1' h2
 refine ⟨⟨v, hst, ?_⟩, h.bl.trans (hm.below (Nat.le_trans hn h.bl.size) h.lo), fun k hk => (h2 k hk).elim (h.lo k) (fun x => by have := h.bl.size; omega)⟩
 refine Kd.zaz (Kd.za0 (Kd.zbM (ok := fun k => ¬ O k ∧ k < W.heap.size) (Kd.zaz (Kd.za0 hr) (fun k hk => ⟨hk.1, hk.2.2.1⟩)) (fun k hk hl => hm.block k hl hk.1))) (fun k hk => ?_)
 exact fun e => (h2 k e).elim hk.1.1 (fun x => by have := hk.1.2; omega)
theorem infoP : (Tryd.prog.info? 86).map (fun i => (i.zero, i.size, i.bytes)) = some (some (.pointer none), 1, 8) := by kernel_rfl
theorem OutI.put {α : Type} {enc : α → Value} {h1 : ∀ x, (enc x).oneCell' = true} {T e n₀ : Nat} {w0 : World} {Bo : Nat} {pre : List α} {x : α} {O : Nat → Prop} {W W4 w1 : World} {v v1 : Value} (hTe : e ≠ T) (hn : n₀ ≤ w0.heap.size) (hB : n₀ ≤ Bo)
  (hl : ∀ k, O k → k < W.heap.size) (hm : Mine Bo (.cells #[v] T (0, 0)) O W) (hr : (Kd.scalar enc h1).R e W n₀ (fun k => ¬ O k) v pre) (hb : Below n₀ w0 W) (hlo : ∀ k, O k → n₀ ≤ k)
  (hmv : Mv (fun _ => False) W W4) (hr1 : (Kd.scalar enc h1).R e w1 n₀ (fun k => ¬ O k ∨ W4.heap.size ≤ k) v1 (pre ++ [x])) (hg : W4.grownBy w1 v.ownBlock) :
  Mv (fun k => ¬ (O k ∨ k < n₀)) W (w1.setCell ⟨Bo, 0, none⟩ v1) ∧ OutI enc h1 T e n₀ w0 Bo (pre ++ [x]) O (w1.setCell ⟨Bo, 0, none⟩ v1) := by
 have hrow : ∀ k, v.ownBlock = some k → ¬ O k ∧ n₀ ≤ k := fun k hk => by
  have := (Kd.za0 hr).1 k hk
  exact ⟨this.1, this.2.1⟩
 have hmv1 : Mv (fun k => ¬ (O k ∨ k < n₀)) W W4 := hmv.mono (fun _ _ h => h.elim)
 have hmv2 := hmv1.grown hg (fun k e => .inl (fun h => h.elim (hrow k e).1 (fun h => by have := (hrow k e).2; omega)))
 have hBo4 := hmv.at hm.1 (fun h => h)
 have hne : some Bo ≠ v.ownBlock := Kd.R_ne hr hm.1 hTe
 have hBo1 : w1.heap[Bo]? = some (.cells #[v] T (0, 0)) := (hg.block Bo (zam hBo4) hne).trans hBo4
 have hmv3 := hmv2.setCell (p := ⟨Bo, 0, none⟩) (.inl (fun h => h.elim hm.2 (fun h => by simp at h; omega))) v1
 refine ⟨hmv3, ⟨v1, ⟨by simpa using zbo hBo1 0 v1, hm.2⟩, ?_⟩, hb.trans (hmv3.below (Nat.le_trans hn hb.size) (fun k h => Nat.not_lt.1 (fun h' => h (.inr h')))), hlo⟩
 refine Kd.R_set (Kd.zaz hr1 (fun k hk => ?_)) hBo1 (fun q hq => ?_) 0 v1
 ·
  rcases hk with hk | hk
  ·
   exact hk
  ·
   exact fun h => by have := hl k h; have := hmv.size; omega
 ·
  simp [Kd.scalar] at hq
  rw [hq]; exact hTe
theorem zb1 {P : Program} {fn : Func} {p : Tmp} {ty : TypeId} (h : fn.results = #[.cell p ty]) (tmps : Array Value) (w : World) (g : Nat) (t : TypeId) (v : Value) (e : TypeId)
  (hp : tmps.getD p undef = .pointer (some ⟨g, 0, none⟩)) (hg : w.heap[g]? = some (.cells #[v] t (0, 0))) (hu : P.underlying ty = some (.slice e)) : (results fn tmps).run P w = .ok v w := by
 have hp' : tmps[p]?.getD undef = .pointer (some ⟨g, 0, none⟩) := by simpa using hp
 have hc := zah hg 0
 simp only [List.getElem?_toArray, List.getElem?_cons_zero] at hc
 have ha : (isAgg ty).run P w = .ok false w := by simp [isAgg, go_sem, run_underlying hu]
 simp [results, h, hp', asAddr, go_sem, hu, hc, ha]
theorem zex (t : List (S43)) : ∀ (k : Nat) (pre : List Nat) (nm : ByteArray), (lineP t k pre nm).length ≤ k
 | 0, _, _ => by simp [lineP]
 | k + 1, pre, nm => by
  unfold lineP
  by_cases h1 : idxC nm t 0 < 0
  ·
   rw [if_pos h1]; simp
  ·
   rw [if_neg h1]
   by_cases h2 : (idxC nm t 0).toNat ∈ pre
   ·
    rw [if_pos h2]; simp
   ·
    rw [if_neg h2]
    have := zex t k (pre ++ [(idxC nm t 0).toNat]) (clsAt t (idxC nm t 0).toNat).f1
    simp; omega
theorem zci (t : List (S43)) (nm : ByteArray) : (lineL t nm).length ≤ t.length + 1 := zex t _ _ _
theorem zeL (enc : Nat → Value) {W : World} {base g cap e n : Nat} {ss ts : List Nat} (hl : ts.length = ss.length) (ho : W.ownsRow base e 1 (.slice (some ⟨g, 0, none⟩) ss.length cap) ss.length (encs enc ss)) :
  Holds enc W g 0 ss.toArray ∧ (putRow enc (Sort.ahead W n) g 0 ts.toArray).ownsRow base e 1 (.slice (some ⟨g, 0, none⟩) ts.length cap) ts.length (encs enc ts) ∧ W.grownBy (putRow enc (Sort.ahead W n) g 0 ts.toArray) (some g) := by
 rcases ho.2 with ⟨h0, _⟩ | ⟨g', cap', cur, hv, hbase, hb, r1, r2, r3, r4⟩
 ·
  cases h0
 cases hv
 have hg : g < W.heap.size := zam hb
 have hb' : (putRow enc (Sort.ahead W n) g 0 ts.toArray).heap[g]? = some (.cells (putCells enc 0 ts.toArray cur) e (0, 0)) := by
  simp [putRow, mapBlock, Sort.ahead, Array.getElem?_modify, hb, onCells]
 refine ⟨?_, ⟨by simp [encs], .inr ⟨g, cap, _, rfl, hbase, hb', by omega, r2, by simp [putCells, r3], ?_⟩⟩, ⟨rfl, rfl, rfl, by simp [putRow, mapBlock, Sort.ahead], fun k hk hne => ?_⟩⟩
 ·
  intro j hj
  have hj' : j < ss.length := by simpa using hj
  refine ⟨?_, by simp [World.frozen?, hb]⟩
  have h1 : (cur.toList.take (ss.length * 1))[j]? = (encs enc ss)[j]? := by rw [r4]
  rw [List.getElem?_take_of_lt o9] at h1
  simp only [World.cell?, hb, Nat.zero_add]
  simp only [Option.isSome_none, Bool.false_eq_true, if_false]
  rw [← Array.getElem?_toList, h1]
  simp [encs, hj']
 ·
  rw [Nat.mul_one]
  have hle : ts.length ≤ cur.size := by omega
  apply List.ext_getElem?
  intro j
  by_cases hj : j < ts.length
  ·
   rw [List.getElem?_take_of_lt hj, Array.getElem?_toList]
   simp [putCells, encs, hj, show j < cur.size by omega]
  ·
   rw [List.getElem?_take_eq_none o9, List.getElem?_eq_none (by simp [encs]; omega)]
 ·
  have : g ≠ k := fun e => hne (by rw [e])
  simp [putRow, mapBlock, Sort.ahead, Array.getElem?_modify, this]
theorem zdP (A0 : Option Addr) (c0 : Nat) (t : List (S43)) (nm : ByteArray) (w : World) (hr0 : Kd.C k43 w A0 t.length t) (hlt : t.length < 4398046511104) :
  Calls Tryd.prog 57 #[.slice A0 t.length c0, .string nm] w fun e w' => ∃ v, e = .returned v ∧ (Kd.scalar (encP A0) (fun _ => rfl)).R 86 w' w.heap.size (fun _ => True) v (lineL t nm).reverse ∧ Below w.heap.size w w' := by
 refine (callsIn_wide (n := 5)).1 ?_
 refine callsIn_of_wp_marks Tryd.func57 rfl trivial ?_ rfl
 simp only [Tryd.ntmps57, List.size_toArray, List.length_cons, List.length_nil, Nat.reduceAdd, Nat.reduceSub, Array.replicate_succ, Array.replicate_zero, List.push_toArray, List.append_toArray, List.nil_append, List.cons_append]
 gi_wp2_with (refine ⟨trivial, ?_⟩; gi_at_call 56; refine ((callsIn_wide (n := 4)).2 (zdb _ _ _ _ _)).mono ?_; rintro e w' ⟨rfl, rfl⟩)
 obtain ⟨W1, hW1⟩ : ∃ W1, W1 = (((w.alloc (Obj.cells #[Value.slice none 0 0] 104)).alloc (Obj.cells #[Value.slice A0 t.length c0] 25)).alloc (Obj.cells #[Value.string nm] 9)) := ⟨_, rfl⟩
 have b0 : W1.heap[w.heap.size]? = some (.cells #[.slice none 0 0] 104 (0, 0)) := by rw [hW1]; exact zaI (zaI (at_new w _ rfl) _) _
 have b1 : W1.heap[w.heap.size + 1]? = some (.cells #[Value.slice A0 t.length c0] 25 (0, 0)) := by rw [hW1]; exact zaI (at_new _ _ s9) _
 have b2 : W1.heap[w.heap.size + 1 + 1]? = some (.cells #[.string nm] 9 (0, 0)) := by rw [hW1]; exact at_new _ _ s9
 have hsz : W1.heap.size = w.heap.size + 3 := by rw [hW1]; simp
 have hbl : Below w.heap.size w W1 := by rw [hW1]; exact (((Below.refl _ _).alloc (Nat.le_refl _) _).alloc s9 _).alloc (by simp; omega) _
 rw [← hW1]
 refine zd7 (n := 5) rfl o9 75 #[.pointer (some ⟨w.heap.size + 1, 0, none⟩), .pointer (some ⟨w.heap.size + 1 + 1, 0, none⟩)] rfl trivial (zcA Tryd.func75 k9 rfl)
  (fun p : Nat => #[encP A0 p]) (fun _ => rfl) (fun k => k = w.heap.size + 1 ∨ k = w.heap.size + 1 + 1) (fun k => k < w.heap.size) (fun k hk => by rcases hk with rfl | rfl <;> omega) (fun k h => by omega)
  (zdi 4 o9 A0 c0 t nm _ _ w.heap.size W1 (Kd.zay hr0 hbl) hbl.size (fun w' h => Kd.zay hr0 (hbl.trans h)) hlt o9 o9 o9 b1 b2)
  (OutI (encP A0) (fun _ => rfl) 104 86 w.heap.size w w.heap.size) (fun _ _ _ _ => False) (OutI.stable _ _ _ _ _ _ (Nat.le_refl _) _) (fun _ _ _ _ _ _ h _ _ _ => h.elim) ?_
  (fun x => { tmps := #[.slice A0 t.length c0, .string nm, undef, undef, .pointer (some ⟨w.heap.size, 0, none⟩), encP A0 x, .slice A0 t.length c0, .string nm, .func (.func 75) #[] #[.pointer (some ⟨w.heap.size + 1, 0, none⟩), .pointer (some ⟨w.heap.size + 1 + 1, 0, none⟩)],
   encP A0 x, undef, undef, undef, undef, undef, undef, undef], defers := [] }) ?assign ?body ?done (fun _ _ _ _ _ _ _ _ h _ => h.elim)
 ·
  intro O hO W hW
  have hno : ¬ O w.heap.size := fun e => by rcases hO _ e with (h | h) | h <;> omega
  exact ⟨⟨_, ⟨hW.at b0 (fun h => h), hno⟩, Kd.R_nil _ _ _ _ _⟩, hbl.trans (hW.below hbl.size (fun _ h => h.elim)), fun k hk => by rcases hO k hk with (h | h) | h <;> omega⟩
 case assign =>
  intro l x W K hK
  gi_wp2
  exact hK
 case body =>
  intro l pre x O W hI hpre hOl hOlp hrec hOO hsz2
  obtain ⟨⟨v, hm, hr⟩, hb, hlo⟩ := hI
  obtain ⟨A, c, hv⟩ := Kd.zaR hr
  subst hv
  have hc := zah hm.1 0
  have hf := free_at hm.1 0
  simp only [List.getElem?_toArray, List.getElem?_cons_zero] at hc
  have HM := zaa.mk hm
  have HR := zaa.mk hr
  have HL := zaa.mk (show pre.length < t.length + 1 by have := zci t nm; have := hpre.length_le; simp at this; omega)
  clear hm hr
  obtain ⟨q, hq⟩ : ∃ q, encP A0 x = .pointer q := ⟨_, rfl⟩
  rw [hq]
  gi_wp2_with (gi_at_builtin; refine zcI (encP A0) (h1c := fun _ => rfl) _ rfl _ _ 104 86 (.pointer none) 8 rfl Tryd.underlying104 infoP rfl d9 w.heap.size (fun k => ¬ O k) (.slice A pre.length c) pre x W.heap.size 1 rfl rfl ?hg (Kd.zaH HR.out _) ?hb ?hl ?_)
  case hg => rw [hq]; exact (zah (at_new W _ rfl) 0).trans rfl
  case hb => have := hb.size; simp; omega
  case hl => have := HL.out; omega
  intro v1 w1 hR1 hg1
  obtain ⟨W4, hW4⟩ : ∃ W4, W4 = W.alloc (.cells #[.pointer q] 86) := ⟨_, rfl⟩
  have hs4 : W4.heap.size = W.heap.size + 1 := by rw [hW4]; simp
  rw [← hW4] at hg1
  have hmv4 : Mv (fun _ => False) W W4 := by rw [hW4]; exact (Mv.refl _ _).alloc _
  have key := OutI.put (T := 104) d9 (Nat.le_refl _) (Nat.le_refl _) hOl HM.out HR.out hb hlo hmv4 (Kd.zaz hR1 (fun k h => h.imp id (fun h => by omega))) hg1
  have hm1 := (hg1.block w.heap.size (zam (hmv4.at HM.out.1 (fun h => h))) (Kd.R_ne HR.out HM.out.1 d9)).trans (hmv4.at HM.out.1 (fun h => h))
  have hc := zah hm1 0
  have hf := free_at hm1 0
  simp only [List.getElem?_toArray, List.getElem?_cons_zero] at hc
  obtain ⟨A1, c1, hv1⟩ := Kd.zaR hR1
  rw [List.length_append, List.length_singleton] at hv1
  subst hv1
  have KEY := zaa.mk key
  clear key hm1 hR1 hg1 hmv4 hs4 hW4 hb hlo
  gi_wp2
  exact KEY.out
 case done =>
  intro D xs O W hD hOD hOl hS hI hK
  subst hS
  obtain ⟨⟨v, hm, hr⟩, hb, hlo⟩ := hI
  have hown := Kd.zcc hr
  have hc := zah hm.1 0
  simp only [List.getElem?_toArray, List.getElem?_cons_zero] at hc
  have HM := zaa.mk hm
  rcases hown.2 with ⟨rfl, hz⟩ | ⟨g, cap, cur, rfl, hbase, hgb, r1, r2, r3, r4⟩
  ·
   have hl : lineL t nm = [] := List.eq_nil_of_length_eq_zero hz
   have HL := zaa.mk hl
   have hB := zaa.mk hb
   have HLO := zaa.mk hlo
   have hf := free_at hm.1 0
   clear hr hown hm hb hl hlo
   gi_wp2_with (refine ⟨trivial, ?_⟩; gi_at_call 76; refine ((callsIn_wide (n := 4)).2 (zfO none 0 W)).mono ?_; rintro e w' ⟨rfl, rfl⟩)
   have hDB : w.heap.size ≠ D := fun e => by have h1 := HM.out.1; rw [e, hK] at h1; cases h1
   have hsetD : (w'.setCell ⟨w.heap.size, 0, none⟩ (.slice none 0 0)).heap[D]? = some (.deferred (some [])) := at_set hK (by simpa using hDB.symm) _
   refine ⟨by simp, .inl ⟨_, _, rfl, run_takeDeferred hsetD, ?_⟩⟩
   refine ⟨.slice none 0 0, zb1 rfl _ _ w.heap.size 104 (.slice none 0 0) _ rfl (zcm (by simpa using zbo HM.out.1 0 (.slice none 0 0)) hDB _) Tryd.underlying104, ?_⟩
   have hfin := ((Mv.refl (fun k => w.heap.size ≤ k) w').setCell (p := ⟨w.heap.size, 0, none⟩) (.inl (Nat.le_refl _)) (.slice none 0 0)).putObj (r := D) (.inl o9) (.deferred none)
   rw [HL.out]
   exact ⟨_, rfl, Kd.R_nil _ _ _ _ _, hB.out.trans (hfin.below hB.out.size (fun _ h => h))⟩
  ·
   have HO := zaa.mk hown
   clear hr hm
   have hs : (lineL t nm).length ≤ 9223372036854775807 := by have := zci t nm; omega
   have hne : w.heap.size ≠ g := fun e => by have h1 := HM.out.1; rw [e, hgb] at h1; injection h1 with h1; injection h1 with _ h1; exact absurd h1 d9
   have hDg : D ≠ g := fun e => by rw [e, hgb] at hK; cases hK
   have hrev : Calls Tryd.prog 76 #[.slice (some ⟨g, 0, none⟩) (lineL t nm).length cap] W fun e w' => e = .returned (.tuple #[]) ∧ w'.ownsRow w.heap.size 86 1 (.slice (some ⟨g, 0, none⟩) (lineL t nm).length cap) (lineL t nm).reverse.length (encs (encP A0) (lineL t nm).reverse) ∧ W.grownBy w' (some g) := by
    refine (zgx A0 g cap (lineL t nm).toArray W (zeL (n := 0) (encP A0) rfl hown).1 (by simpa using hs)).mono ?_
    rintro e w' ⟨rfl, m, rfl⟩
    have := (zeL (n := m) (encP A0) (List.length_reverse) hown).2
    rw [List.length_reverse] at this ⊢
    rw [List.reverse_toArray]
    exact ⟨rfl, this⟩
   have HREV := zaa.mk ((callsIn_wide (n := 4)).2 hrev)
   clear hrev hown r1 r2 r3 r4
   gi_wp2_with (refine ⟨trivial, ?_⟩; gi_at_call 76; refine HREV.out.mono ?_; rintro e w' ⟨rfl, hR', hg'⟩; have hm' := (hg'.block w.heap.size (zam HM.out.1) (by simpa using hne)).trans HM.out.1; have HM' := zaa.mk hm'; have HR' := zaa.mk hR'; have HG' := zaa.mk hg'; have hc' := zah hm' 0; have hf' := free_at hm' 0; simp only [List.getElem?_toArray, List.getElem?_cons_zero] at hc'; clear hm' hR' hg')
   have hDB : w.heap.size ≠ D := fun e => by have h1 := HM.out.1; rw [e, hK] at h1; cases h1
   have hD' := (HG'.out.block D (zam hK) (by simpa using hDg)).trans hK
   have hsetD : (w'.setCell ⟨w.heap.size, 0, none⟩ (.slice (some ⟨g, 0, none⟩) (lineL t nm).length cap)).heap[D]? = some (.deferred (some [])) := at_set hD' (by simpa using hDB.symm) _
   refine ⟨by simp, .inl ⟨_, _, rfl, run_takeDeferred hsetD, ?_⟩⟩
   refine ⟨_, zb1 rfl _ _ w.heap.size 104 (.slice (some ⟨g, 0, none⟩) (lineL t nm).length cap) _ rfl (zcm (by simpa using zbo HM'.out 0 (.slice (some ⟨g, 0, none⟩) (lineL t nm).length cap)) hDB _) Tryd.underlying104, ?_⟩
   have hfin := ((Mv.refl (fun k => w.heap.size ≤ k) W).grown HG'.out (fun k e => .inl (by cases e; exact hbase))).setCell (p := ⟨w.heap.size, 0, none⟩) (.inl (Nat.le_refl _)) (.slice (some ⟨g, 0, none⟩) (lineL t nm).length cap) |>.putObj (r := D) (.inl o9) (.deferred none)
   have hR2 : (Kd.scalar (encP A0) (fun _ => rfl)).R 86 w' w.heap.size (fun k => k = g) (.slice (some ⟨g, 0, none⟩) (lineL t nm).length cap) (lineL t nm).reverse := Kd.zca HR'.out (fun k hk => by simp [Value.ownBlock] at hk; exact hk.symm)
   refine ⟨_, rfl, Kd.zaz (Kd.zbM hR2 (fun k hk hl => ?_)) (fun _ _ => trivial), hb.trans (hfin.below hb.size (fun _ h => h))⟩
   subst hk
   exact (World.putObj_heap_other o9).trans (Below.heap_setCell w' ⟨w.heap.size, 0, none⟩ _ k (by simpa using hne.symm))
end Go.Proofs.YtfhgmebhdchegaaDoorTab
end

section
namespace Go.Proofs.YtfhgmebhdchegaaDoorTab
open Go.RowKit Go.Proofs.YtfhgmebhdchegaaDoor.PAll Go.Proofs.YtfhgmebhdchegaaDoorW.zai Go.Proofs.YtfhgmebhdchegaaDoorW.zas Go.Proofs.YtfhgmebhdchegaaDoorRF Go.Proofs.YtfhgmebhdchegaaDoorRG
attribute [local go_sem] Oper.semAt_some
def zb9 (t : List (S43)) (l : List Nat) : List (S48) := l.flatMap fun p => (clsAt t p).f2
def zbH (t : List (S43)) (nm : ByteArray) : List (S48) := zb9 t (lineL t nm).reverse
theorem zep (t : List (S43)) (l : List Nat) (i : Nat) (hi : i < l.length) : zb9 t (l.take (i + 1)) = zb9 t (l.take i) ++ (clsAt t (rdOf 0 l (i : Int))).f2 := by
 unfold zb9 rdOf
 rw [Int.toNat_natCast, List.getD_eq_getElem?_getD, List.getElem?_eq_getElem hi, List.take_succ_eq_append_getElem hi, List.flatMap_append]
 simp only [List.flatMap_cons, List.flatMap_nil, List.append_nil, Option.getD_some]
theorem zfG (t : List (S43)) (l : List Nat) (i : Nat) : (zb9 t (l.take i)).length ≤ (zb9 t l).length := by
 unfold zb9
 conv => rhs; rw [← List.take_append_drop i l]
 rw [List.flatMap_append, List.length_append]
 omega
theorem infoV : (Tryd.prog.info? 48).map (fun i => (i.zero, i.size, i.bytes)) = some (some (.agg #[(.string ⟨#[]⟩), (.string ⟨#[]⟩)]), 2, 32) := by kernel_rfl
theorem zcC (A0 : Option Addr) (c0 : Nat) (t : List (S43)) (nm : ByteArray) (w : World) (hr0 : Kd.C k43 w A0 t.length t) (hlt : t.length < 4398046511104) (hfl : (zbH t nm).length < 4398046511104) :
  Calls Tryd.prog 35 #[.slice A0 t.length c0, .string nm] w fun e w' => ∃ v, e = .returned v ∧ Kd.R k48 48 w' w.heap.size (fun _ => True) v (zbH t nm) ∧ Below w.heap.size w w' := by
 have hu := Tryd.underlying43
 have HLI := zaa.mk (zdP A0 c0 t nm w hr0 hlt)
 have HR0 := zaa.mk hr0
 have HFL := zaa.mk hfl
 unfold zbH at HFL ⊢
 have hLL : (lineL t nm).reverse.length ≤ t.length + 1 := by rw [List.length_reverse]; exact zci t nm
 have hin : ∀ q ∈ (lineL t nm).reverse, q < t.length := fun q hq => zcd t _ _ _ q (List.mem_reverse.1 hq)
 obtain ⟨L, hL⟩ : ∃ L, L = (lineL t nm).reverse := ⟨_, rfl⟩
 rw [← hL] at HLI HFL hin hLL ⊢
 have HIN := zaa.mk hin
 clear hr0 hfl hL hin
 go_enter Tryd.func35, Tryd.ntmps35
 go_wp2_with fail
 refine HLI.out.mono ?_
 rintro e w1 ⟨v, rfl, hR1, hb1⟩
 obtain ⟨A9, c9, rfl, hc9, hC9⟩ := Kd.zbB hR1
 have HC9 := zaa.mk hC9
 have HB1 := zaa.mk hb1
 have HR1 := zaa.mk (Kd.zay HR0.out hb1)
 clear hR1 hC9 hb1 hc9 HLI
 go_wp2_with fail
 go_loopw [4, 11] (fun v4 v11 wr => ∃ i : Nat, i ≤ L.length ∧ v11 = .int .i64 i ∧ zaa (Kd.R k48 48 wr w1.heap.size (fun _ => True) v4 (zb9 t (L.take i)) ∧ Below w1.heap.size w1 wr)) (fun _ v11 _ => L.length - (intOf v11).toNat)
 case atStart => exact ⟨0, Nat.zero_le _, rfl, ⟨by simpa [zb9] using Kd.R_nil _ _ _ _ _, Below.refl _ _⟩⟩
 case round =>
  obtain ⟨i, hi, rfl, ⟨hO, hB⟩⟩ := hrel
  have HB := zaa.mk hB
  have HO := zaa.mk hO
  obtain ⟨A4, c4, hv4⟩ := Kd.zaR hO
  subst hv4
  by_cases hlt2 : i < L.length
  ·
   obtain ⟨ad9, hA9, x9⟩ := (Kd.zcK (d := 0) (Kd.zay HC9.out hB)).at_ (i : Int) o9 o9
   obtain ⟨p, hp⟩ : ∃ p, p = rdOf 0 L (i : Int) := ⟨_, rfl⟩
   have hpl : p < t.length := by
    rw [hp]; unfold rdOf
    rw [Int.toNat_natCast, List.getD_eq_getElem?_getD, List.getElem?_eq_getElem hlt2]
    exact HIN.out _ (List.getElem_mem hlt2)
   have hsn := zep t L i hlt2
   have hle := zfG t L (i + 1)
   rw [← hp] at x9 hsn
   rw [hsn, List.length_append] at hle
   obtain ⟨ad, A2, c2, A3, c3, hA0, x0, x1, x2, x3, l2, C2, l3, C3⟩ := zb0 (Kd.zay HR1.out hB) (p : Int) o9 o9
   rw [Int.toNat_natCast] at x9
   simp only [Int.toNat_natCast] at x0 x1 x2 x3
   subst hA9
   subst hA0
   simp only [encP, Option.map_some] at x9
   have H2 := zaa.mk C2
   have HLE := zaa.mk hle
   have HSN := zaa.mk hsn
   clear hO hB x0 x1 x3 C2 C3 l2 l3 hle hsn hpl hp
   have i0 : (0 : Int) ≤ (i : Int) := by omega
   have i1 : (i : Int) < (L.length : Int) := by omega
   go_wp2_with ((with_reducible refine za6 (N := 20) rfl ?_); refine Kd.zc5 k48 (Rr := k48.K wr) (w0 := w1) (W := wr) w1.heap.size rfl (.tmp 15) (.tmp 19) 40 48 (.agg #[(.string ⟨#[]⟩), (.string ⟨#[]⟩)]) 32 rfl Tryd.underlying40 infoV rfl d9 o9 (.slice A4 (zb9 t (L.take i)).length c4) (zb9 t (L.take i)) (clsAt t p).f2 A2 (clsAt t p).f2.length c2 (fun _ => True) (fun _ => False) rfl (by first | rfl | simp [Act.eval]) HO.out H2.out (fun _ _ h => h) (fun _ h => h.elim) (fun _ _ => trivial) HB.out HB.out.size ?aL ?_; (case aL => have h1 := HLE.out; have h2 := HFL.out; omega); intro v1 w4 ho4 hb4 _ _; have HO4 := zaa.mk ho4; have HB4 := zaa.mk hb4; clear ho4 hb4)
   go_roundw
   case rel => exact ⟨i + 1, by omega, by go_num, ⟨by rw [HSN.out]; exact HO4.out, HB4.out⟩⟩
   case measure => simp [intOf]; omega
  ·
   have hi2 : i = L.length := by omega
   have HI2 := zaa.mk hi2
   clear hO hB hi2
   go_wp2_with fail
   go_ret
   refine ⟨_, rfl, ?_, HB1.out.trans (HB.out.mono HB1.out.size)⟩
   have := HO.out
   rw [HI2.out, List.take_length] at this
   rw [HI2.out, List.take_length]
   exact Kd.zbm this HB1.out.size
theorem zhq {α : Type} (d : Kd α) (W : World) (e base : Nat) (hb : base ≤ W.heap.size) : d.R e (W.alloc (.cells #[] e)) base (fun _ => True) (.slice (some ⟨W.heap.size, 0, none⟩) 0 0) [] :=
 ⟨fun _ _ => trivial, zbV.lit (ps := []) (inner := []) W base (Reps.none _ _) hb s9⟩
theorem zdn (A0 : Option Addr) (c0 : Nat) (l : List (S48)) (w : World) (hr0 : Kd.C k48 w A0 l.length l) (hl : l.length < 4398046511104) :
  Calls Tryd.prog 58 #[.slice A0 l.length c0] w fun e w' => ∃ v, e = .returned v ∧ Kd.R k48 48 w' w.heap.size (fun _ => True) v l ∧ Below w.heap.size w w' := by
 have q59 : ∀ (w : World) (a : Option Addr) (n c n' c' : Nat), (binOp .eql 40 (.slice a n c) (.slice none n' c')).run Tryd.prog w = .ok (.bool a.isNone) w := fun w a n c n' c' => Lib.run_eql_slice_nil w _ _ a n c n' c' Tryd.underlying40
 have HR0 := zaa.mk hr0
 cases A0 with
 | none =>
  have hl0 : l = [] := by
   have h0 : l.length = 0 := by
    rcases Nat.eq_zero_or_pos l.length with h0 | h0
    ·
     exact h0
    ·
     obtain ⟨ad, h, _⟩ := hr0.2.2 h0
     cases h
   exact List.eq_nil_of_length_eq_zero h0
  subst hl0
  clear hr0
  go_enter Tryd.func58, Tryd.ntmps58
  go_wp2_with fail
  go_ret
  exact ⟨_, rfl, Kd.R_nil _ _ _ _ _, Below.refl _ _⟩
 | some ad =>
  clear hr0
  go_enter Tryd.func58, Tryd.ntmps58
  go_wp2_with ((with_reducible refine za6 (N := 7) rfl ?_); refine Kd.zc5 k48 (Rr := k48.K w) (w0 := w) (W := w.alloc (.cells #[] 48)) w.heap.size rfl (.tmp 5) (.tmp 6) 40 48 (.agg #[(.string ⟨#[]⟩), (.string ⟨#[]⟩)]) 32 rfl Tryd.underlying40 infoV rfl d9 o9 (.slice (some ⟨w.heap.size, 0, none⟩) 0 0) [] l (some ad) l.length c0 (fun _ => True) (fun _ => False) rfl rfl (zhq _ _ _ _ (Nat.le_refl _)) (Kd.zbe HR0.out _) (fun _ _ h => h) (fun _ h => h.elim) (fun _ _ => trivial) ((Below.refl _ _).alloc (Nat.le_refl _) _) ?aS ?aL ?_; (case aS => simp); (case aL => simp; omega); intro v1 w4 ho4 hb4 _ _; have HO4 := zaa.mk ho4; have HB4 := zaa.mk hb4; clear ho4 hb4)
  go_ret
  exact ⟨_, rfl, HO4.out, HB4.out⟩
def zcl (t : List (S43)) (cls nm : ByteArray) : ByteArray := (zfi nm (zbH t cls)).f1
def zcw (t : List (S43)) (cls nm : ByteArray) : Bool := !decide (idxV nm (zbH t cls) 0 < 0)
theorem zdQ (A0 : Option Addr) (c0 : Nat) (t : List (S43)) (cls nm : ByteArray) (w : World) (hr0 : Kd.C k43 w A0 t.length t) (hlt : t.length < 4398046511104) (hfl : (zbH t cls).length < 4398046511104) :
  Calls Tryd.prog 37 #[.slice A0 t.length c0, .string cls, .string nm] w fun e w' => e = .returned (.tuple #[.string (zcl t cls nm), .bool (zcw t cls nm)]) ∧ Below w.heap.size w w' := by
 have hmf : ∀ (fn : Fn) (first cap : Array Value) (w : World), (Instr.makeFunc fn first cap).run Tryd.prog w = .ok (.func fn first cap) w := fun _ _ _ _ => rfl
 have hu := Tryd.underlying48
 have HF := zaa.mk (zcC A0 c0 t cls (w.alloc (.cells #[.string nm] 9)) (Kd.zay hr0 ((Below.refl _ _).alloc (Nat.le_refl _) _)) hlt hfl)
 unfold zcl zcw
 obtain ⟨L, hL⟩ : ∃ L, L = zbH t cls := ⟨_, rfl⟩
 rw [← hL] at HF hfl ⊢
 have HFL := zaa.mk hfl
 obtain ⟨b, hb⟩ : ∃ b, b = !decide (idxV nm L 0 < 0) := ⟨_, rfl⟩
 obtain ⟨q, hq⟩ : ∃ q, q = (if idxV nm L 0 < 0 then 0 else idxV nm L 0) := ⟨_, rfl⟩
 obtain ⟨z, hz⟩ : ∃ z, z = zfi nm L := ⟨_, rfl⟩
 rw [← hb, ← hz]
 have HBQ := zaa.mk hb
 have HQQ := zaa.mk hq
 have HYQ := zaa.mk hz
 clear hr0 hL hfl hb hq hz
 go_enter Tryd.func37, Tryd.ntmps37
 go_wp2_with fail
 refine HF.out.mono ?_
 rintro e w1 ⟨v, rfl, hR, hb⟩
 obtain ⟨A1, c1, rfl, hc1, hC1⟩ := Kd.zbB hR
 have hp := (hb.block w.heap.size s9).trans (at_new w (.cells #[.string nm] 9 (0, 0)) rfl)
 have HFI := zaa.mk (findV A1 c1 L nm w.heap.size w1 hC1 HFL.out hp)
 have HB1 := zaa.mk (((Below.refl w.heap.size w).alloc (Nat.le_refl _) (.cells #[.string nm] 9 (0, 0))).trans (hb.mono s9))
 clear hR hC1 hp hb HF
 rw [← HBQ.out, ← HQQ.out, ← HYQ.out] at HFI
 go_wp2_with fail
 refine HFI.out.mono ?_
 rintro e w2 ⟨y, rfl, rfl, hb2⟩
 have HB2 := zaa.mk (HB1.out.trans (hb2.mono HB1.out.size))
 clear hb2 HFI
 go_wp2_with fail
 go_ret2
 exact ⟨rfl, HB2.out.alloc HB2.out.size _⟩
structure Small (t : List (S43)) : Prop where
 all : t.length < 4398046511104
 ms : ∀ p, p < t.length → (clsAt t p).f3.length < 4398046511104
 ps : ∀ p, p < t.length → ∀ m ∈ (clsAt t p).f3, m.f1.length < 4398046511104
def methodAt (t : List (S43)) (nm : ByteArray) (l : List Nat) : Option Nat := l.find? fun p => !decide (idxS nm (clsAt t p).f3 0 < 0)
def methM (t : List (S43)) (nm : ByteArray) : Option Nat → S51
 | some p => zeG nm (clsAt t p).f3
 | none => z51
def methC (t : List (S43)) : Option Nat → ByteArray
 | some p => (clsAt t p).f0
 | none => ⟨#[]⟩
theorem zeE (nm : ByteArray) (l : List (S51)) (h : ∀ m ∈ l, m.f1.length < 4398046511104) : (zeG nm l).f1.length < 4398046511104 := by
 unfold zeG zaQ
 by_cases hn : idxS nm l 0 < 0
 ·
  rw [if_pos hn]; simp [z51]
 ·
  rw [if_neg hn, List.getD_eq_getElem?_getD]
  cases hg : l[(idxS nm l 0).toNat]? with
  | none => simp [z51]
  | some m => exact h m (List.mem_of_getElem? hg)
theorem zeh {t : List (S43)} {nm : ByteArray} {l : List Nat} (h : methodAt t nm l = none) (p : Nat) : methodAt t nm (l ++ [p]) = if idxS nm (clsAt t p).f3 0 < 0 then none else some p := by
 unfold methodAt at h ⊢
 rw [List.find?_append, h]
 by_cases hp : idxS nm (clsAt t p).f3 0 < 0 <;> simp [List.find?, hp]
theorem zeF {t : List (S43)} {nm : ByteArray} {l l' : List Nat} {p : Nat} (h : methodAt t nm l = some p) (hp : l <+: l') : methodAt t nm l' = some p := by
 obtain ⟨r, rfl⟩ := hp
 unfold methodAt at h ⊢
 rw [List.find?_append, h]; rfl
structure MI (t : List (S43)) (nm : ByteArray) (w : World) (pre : List Nat) (O : Nat → Prop) (W : World) : Prop where
 p5 : Mine w.heap.size (.cells #[.string nm] 9 (0, 0)) O W
 p6 : Mine (w.heap.size + 1) (.cells #[.string ⟨#[]⟩, .slice none 0 0, .string ⟨#[]⟩] 51 (0, 0)) O W
 p7 : Mine (w.heap.size + 2) (.cells #[.string ⟨#[]⟩] 9 (0, 0)) O W
 p8 : Mine (w.heap.size + 3) (.cells #[.bool false] 4 (0, 0)) O W
 bl : Below w.heap.size w W
 lo : ∀ k, O k → w.heap.size ≤ k
 no : methodAt t nm pre = none
theorem MI.stable (t : List (S43)) (nm : ByteArray) (w : World) : Stable (MI t nm w) := fun s O O' W W' h hm h1 h2 => by
 have hst : ∀ {b : Nat} {o : Obj}, Mine b o O W → Mine b o O' W' := fun hb => Mine.stable (β := Unit) (fun _ => _) (fun _ => _) () O O' W W' hb hm h1 h2
 exact ⟨hst h.p5, hst h.p6, hst h.p7, hst h.p8, h.bl.trans (hm.below h.bl.size h.lo), fun k hk => (h2 k hk).elim (h.lo k) (fun x => by have := h.bl.size; omega), h.no⟩
structure MX (t : List (S43)) (cls nm : ByteArray) (w : World) (pre : List Nat) (O : Nat → Prop) (W : World) : Prop where
 is : ∃ p v, methodAt t nm (lineL t cls) = some p ∧ Mine (w.heap.size + 1) (.cells #[.string (methM t nm (some p)).f0, v, .string (methM t nm (some p)).f2] 51 (0, 0)) O W ∧
  Mine (w.heap.size + 2) (.cells #[.string (methC t (some p))] 9 (0, 0)) O W ∧ Kd.R k48 48 W w.heap.size (fun k => ¬ O k) v (methM t nm (some p)).f1
 p8 : Mine (w.heap.size + 3) (.cells #[.bool true] 4 (0, 0)) O W
 bl : Below w.heap.size w W
 lo : ∀ k, O k → w.heap.size ≤ k
theorem zgw {α : Type} {d : Kd α} {e n₀ : Nat} {O O' : Nat → Prop} {W W' : World} {v : Value} {xs : List α} (hr : d.R e W n₀ (fun k => ¬ O k) v xs) (hm : Mv O W W') (h2 : ∀ k, O' k → O k ∨ W.heap.size ≤ k) : d.R e W' n₀ (fun k => ¬ O' k) v xs := by
 refine Kd.zaz (Kd.za0 (Kd.zbM (ok := fun k => ¬ O k ∧ k < W.heap.size) (Kd.zaz (Kd.za0 hr) (fun k hk => ⟨hk.1, hk.2.2.1⟩)) (fun k hk hl => hm.block k hl hk.1))) (fun k hk => ?_)
 exact fun e => (h2 k e).elim hk.1.1 (fun x => by have := hk.1.2; omega)
theorem MX.stable (t : List (S43)) (cls nm : ByteArray) (w : World) : Stable (MX t cls nm w) := fun s O O' W W' h hm h1 h2 => by
 have hst : ∀ {b : Nat} {o : Obj}, Mine b o O W → Mine b o O' W' := fun hb => Mine.stable (β := Unit) (fun _ => _) (fun _ => _) () O O' W W' hb hm h1 h2
 obtain ⟨p, v, i1, i2, i3, i4⟩ := h.is
 exact ⟨⟨p, v, i1, hst i2, hst i3, zgw i4 hm h2⟩, hst h.p8, h.bl.trans (hm.below h.bl.size h.lo), fun k hk => (h2 k hk).elim (h.lo k) (fun x => by have := h.bl.size; omega)⟩
theorem MI.pure {t : List (S43)} {nm : ByteArray} {w : World} {pre pre' : List Nat} {O : Nat → Prop} {W W' : World} (h : MI t nm w pre O W) (hb : Below W.heap.size W W') (hn : methodAt t nm pre' = none) : MI t nm w pre' O W' := by
 have hst : ∀ {b : Nat} {o : Obj}, Mine b o O W → Mine b o O W' := fun hm => ⟨(hb.block _ (zam hm.1)).trans hm.1, hm.2⟩
 exact ⟨hst h.p5, hst h.p6, hst h.p7, hst h.p8, h.bl.trans (hb.mono h.bl.size), h.lo, hn⟩
structure Res (B : Nat) (o : Obj) (W W' : World) : Prop where
 mv : Mv (fun k => k = B) W W'
 val : W'.heap[B]? = W.heap[B]? ∨ W'.heap[B]? = some o
theorem Res.refl (B : Nat) (o : Obj) (W : World) : Res B o W W := ⟨Mv.refl _ _, .inl rfl⟩
theorem Res.trans {B : Nat} {o : Obj} {A C D : World} (h : Res B o A C) (k : Res B o C D) : Res B o A D := ⟨h.mv.trans k.mv, by
 rcases k.val with e | e
 ·
  rcases h.val with e' | e'
  ·
   exact .inl (e.trans e')
  ·
   exact .inr (e.trans e')
 ·
  exact .inr e⟩
theorem Res.keep {B : Nat} {o : Obj} {W W' : World} (h : Res B o W W') (hw : W.heap[B]? = some o) : W'.heap[B]? = some o := by
 rcases h.val with e | e
 ·
  exact e.trans hw
 ·
  exact e
theorem zdr {P : Program} {ty : TypeId} {w : World} {g : Nat} {t : TypeId} {v : Value} (ha : (isAgg ty).run P w = .ok false w) (hg : w.heap[g]? = some (.cells #[v] t (0, 0))) : (loadVar ty ⟨g, 0, none⟩).run P w = .ok v w := by
 have hc := zah hg 0
 simp only [List.getElem?_toArray, List.getElem?_cons_zero] at hc
 simp [loadVar, go_sem, hc, ha]
theorem zdU {P : Program} {fn : Func} {p1 p2 p3 : Tmp} {ty1 ty2 ty3 : TypeId} (h : fn.results = #[.cell p1 ty1, .cell p2 ty2, .cell p3 ty3]) (tmps : Array Value) (w : World) (a1 a2 a3 : Addr) (v1 v2 v3 : Value)
  (h1 : tmps.getD p1 undef = .pointer (some a1)) (h2 : tmps.getD p2 undef = .pointer (some a2)) (h3 : tmps.getD p3 undef = .pointer (some a3))
  (l1 : (loadVar ty1 a1).run P w = .ok v1 w) (l2 : (loadVar ty2 a2).run P w = .ok v2 w) (l3 : (loadVar ty3 a3).run P w = .ok v3 w) : (results fn tmps).run P w = .ok (.tuple #[v1, v2, v3]) w := by
 have h1' : tmps[p1]?.getD undef = .pointer (some a1) := by simpa using h1
 have h2' : tmps[p2]?.getD undef = .pointer (some a2) := by simpa using h2
 have h3' : tmps[p3]?.getD undef = .pointer (some a3) := by simpa using h3
 simp [results, h, h1', h2', h3', asAddr, l1, l2, l3]
theorem zdo (A0 : Option Addr) (c0 : Nat) (t : List (S43)) (cls nm : ByteArray) (w : World) (hr0 : Kd.C k43 w A0 t.length t) (hs : Small t) :
  Calls Tryd.prog 39 #[.slice A0 t.length c0, .string cls, .string nm] w fun e w' => ∃ v, e = .returned (.tuple #[.agg #[.string (methM t nm (methodAt t nm (lineL t cls))).f0, v, .string (methM t nm (methodAt t nm (lineL t cls))).f2], .string (methC t (methodAt t nm (lineL t cls))), .bool (methodAt t nm (lineL t cls)).isSome]) ∧
   Kd.R k48 48 w' w.heap.size (fun _ => True) v (methM t nm (methodAt t nm (lineL t cls))).f1 ∧ Below w.heap.size w w' := by
 have hu61 := Tryd.underlying51
 refine (callsIn_wide (n := 5)).1 ?_
 refine callsIn_of_wp_marks Tryd.func39 rfl trivial ?_ rfl
 simp only [Tryd.ntmps39, List.size_toArray, List.length_cons, List.length_nil, Nat.reduceAdd, Nat.reduceSub, Array.replicate_succ, Array.replicate_zero, List.push_toArray, List.append_toArray, List.nil_append, List.cons_append]
 gi_wp2_with (refine ⟨trivial, ?_⟩; gi_at_call 56; refine ((callsIn_wide (n := 4)).2 (zdb _ _ _ _ _)).mono ?_; rintro e w' ⟨rfl, rfl⟩)
 obtain ⟨W1, hW1⟩ : ∃ W1, W1 = ((((((w.alloc (.cells #[.string nm] 9)).alloc (.cells #[.string ⟨#[]⟩, .slice none 0 0, .string ⟨#[]⟩] 51)).alloc (.cells #[.string ⟨#[]⟩] 9)).alloc (.cells #[.bool false] 4)).alloc (.cells #[.slice A0 t.length c0] 25)).alloc (.cells #[.string cls] 9)) := ⟨_, rfl⟩
 have hsz : W1.heap.size = w.heap.size + 6 := by rw [hW1]; simp
 have b5 : W1.heap[w.heap.size]? = some (.cells #[.string nm] 9 (0, 0)) := by rw [hW1]; exact zaI (zaI (zaI (zaI (zaI (at_new _ _ rfl) _) _) _) _) _
 have b6 : W1.heap[w.heap.size + 1]? = some (.cells #[.string ⟨#[]⟩, .slice none 0 0, .string ⟨#[]⟩] 51 (0, 0)) := by rw [hW1]; exact zaI (zaI (zaI (zaI (at_new _ _ s9) _) _) _) _
 have b7 : W1.heap[w.heap.size + 2]? = some (.cells #[.string ⟨#[]⟩] 9 (0, 0)) := by rw [hW1]; exact zaI (zaI (zaI (at_new _ _ s9) _) _) _
 have b8 : W1.heap[w.heap.size + 3]? = some (.cells #[.bool false] 4 (0, 0)) := by rw [hW1]; exact zaI (zaI (at_new _ _ s9) _) _
 have bt : W1.heap[w.heap.size + 4]? = some (.cells #[.slice A0 t.length c0] 25 (0, 0)) := by rw [hW1]; exact zaI (at_new _ _ s9) _
 have bn : W1.heap[w.heap.size + 5]? = some (.cells #[.string cls] 9 (0, 0)) := by rw [hW1]; exact at_new _ _ s9
 have hbl : Below w.heap.size w W1 := by
  rw [hW1]; exact (((((((Below.refl _ _).alloc (Nat.le_refl _) _).alloc s9 _).alloc (by simp; omega) _).alloc (by simp; omega) _).alloc (by simp; omega) _).alloc (by simp; omega) _)
 rw [← hW1]
 have hCb : ∀ w', Below w.heap.size w w' → Kd.C k43 w' A0 t.length t := fun w' h => Kd.zay hr0 h
 refine zd7 (n := 5) rfl o9 75 #[.pointer (some ⟨w.heap.size + 4, 0, none⟩), .pointer (some ⟨w.heap.size + 5, 0, none⟩)] rfl trivial (zcA Tryd.func75 k9 rfl)
  (fun p : Nat => #[encP A0 p]) (fun _ => rfl) (fun k => k = w.heap.size + 4 ∨ k = w.heap.size + 5) (fun k => k < w.heap.size) (fun k hk => by rcases hk with rfl | rfl <;> omega) (fun k h => by omega)
  (zdi 4 o9 A0 c0 t cls _ _ w.heap.size W1 (hCb _ hbl) hbl.size (fun w' h => hCb _ (hbl.trans h)) hs.all o9 o9 o9 bt bn)
  (MI t nm w) (fun c pre O W => c = .ret ∧ MX t cls nm w pre O W) (MI.stable t nm w) (fun c => (Stable.pure (fun _ => c = .ret)).and (MX.stable t cls nm w)) ?_
  (fun x => { tmps := #[.slice A0 t.length c0, .string cls, .string nm, undef, undef, .pointer (some ⟨w.heap.size, 0, none⟩), .pointer (some ⟨w.heap.size + 1, 0, none⟩), .pointer (some ⟨w.heap.size + 2, 0, none⟩), .pointer (some ⟨w.heap.size + 3, 0, none⟩), encP A0 x, undef, undef, undef, .slice A0 t.length c0, .string cls, .func (.func 75) #[] #[.pointer (some ⟨w.heap.size + 4, 0, none⟩), .pointer (some ⟨w.heap.size + 5, 0, none⟩)],
   encP A0 x, undef, undef, undef, undef, undef, undef, undef, undef, undef, undef, undef, undef, undef, undef, undef, undef, undef, undef, undef, undef, undef], defers := [] }) ?assign ?body ?done ?stop
 ·
  intro O hO W hW
  have hno : ∀ k, k < w.heap.size + 4 → ¬ O k := fun k hk e => by rcases hO k e with (h | h) | h <;> omega
  have go : ∀ {b : Nat} {o : Obj}, W1.heap[b]? = some o → b < w.heap.size + 4 → Mine b o O W := fun h hlt => ⟨hW.at h (fun h => h), hno _ hlt⟩
  exact ⟨go b5 o9, go b6 o9, go b7 o9, go b8 o9, hbl.trans (hW.below hbl.size (fun _ h => h.elim)), fun k hk => by rcases hO k hk with (h | h) | h <;> omega, rfl⟩
 case assign =>
  intro l x W K hK
  gi_wp2
  exact hK
 case body =>
  intro l pre x O W hI hpre hOl hOlp hrec hOO hsz2
  have hxl : x < t.length := zcd t _ _ _ x (hpre.subset s9)
  obtain ⟨ad, A2, c2, A3, c3, hA0, x0, x1, x2, x3, l2, C2, l3, C3⟩ := zb0 (hCb _ hI.bl) (x : Int) o9 o9
  subst hA0
  simp only [Int.toNat_natCast] at x0 x1 x2 x3
  have HFI := zaa.mk (findS A3 c3 (clsAt t x).f3 nm w.heap.size W C3 (hs.ms x hxl) hI.p5.1)
  have hsn := zeh hI.no x
  have HI := zaa.mk hI
  have HPRE := zaa.mk hpre
  have HOL := zaa.mk hOl
  have hmf : ∀ (fn : Fn) (first cap : Array Value) (w : World), (Instr.makeFunc fn first cap).run Tryd.prog w = .ok (.func fn first cap) w := fun _ _ _ _ => rfl
  simp only [encP, Option.map_some]
  by_cases hneg : idxS nm (clsAt t x).f3 0 < 0
  ·
   rw [if_pos hneg] at hsn
   have HSN := zaa.mk hsn
   have hd : (!decide (idxS nm (clsAt t x).f3 0 < 0)) = false := by simpa using hneg
   rw [if_pos hneg, hd] at HFI
   clear hsn hneg hd C2 C3 l2 l3 x0 x1 x2 hI hpre hOl hOlp hrec hOO hsz2
   gi_wp2
   refine ⟨trivial, (CallsIn.inRound l (callsIn_wide.2 HFI.out)).mono ?_⟩
   rintro e w2 ⟨y, hy, A1, c1, rfl, l1, C1, hb2⟩
   have HB2 := zaa.mk hb2
   clear hb2 hy l1 C1 HFI
   gi_wp2
   have hb3 := HB2.out.alloc HB2.out.size (.cells #[.string y.f0, .slice A1 y.f1.length c1, .string y.f2] 51)
   exact ⟨(Mv.zbN hb3 _), HI.out.pure hb3 HSN.out⟩
  ·
   rw [if_neg hneg] at hsn
   have HSN := zaa.mk hsn
   have hd : (!decide (idxS nm (clsAt t x).f3 0 < 0)) = true := by simpa using hneg
   obtain ⟨q, hq⟩ : ∃ q, q = idxS nm (clsAt t x).f3 0 := ⟨_, rfl⟩
   rw [if_neg hneg, hd, ← hq] at HFI
   clear hsn hneg hd hq C2 C3 l2 l3 x1 x2 hI hpre hOl hOlp hrec hOO hsz2
   gi_wp2
   refine ⟨trivial, (CallsIn.inRound l (callsIn_wide.2 HFI.out)).mono ?_⟩
   rintro e w2 ⟨y, hy, A1, c1, rfl, l1, C1, hb2⟩
   have HB2 := zaa.mk hb2
   have HC1 := zaa.mk C1
   have HL1 := zaa.mk l1
   have HY := zaa.mk hy
   clear hb2 hy l1 C1 HFI
   obtain ⟨w3, hw3⟩ : ∃ w3, w3 = w2.alloc (.cells #[.string y.f0, .slice A1 y.f1.length c1, .string y.f2] 51) := ⟨_, rfl⟩
   have hb3 : Below W.heap.size W w3 := by rw [hw3]; exact HB2.out.alloc HB2.out.size _
   have hbox : w3.heap[w2.heap.size]? = some (.cells #[.string y.f0, .slice A1 y.f1.length c1, .string y.f2] 51 (0, 0)) := by rw [hw3]; exact at_new _ _ rfl
   have hle : y.f1.length < 4398046511104 := by
    rw [HY.out]
    exact zeE nm _ (hs.ps x (zcd t _ _ _ x (HPRE.out.subset s9)))
   have HCL := zaa.mk (zdn A1 c1 y.f1 w3 (by rw [hw3]; exact Kd.zbe HC1.out _) hle)
   have HB3 := zaa.mk hb3
   have HBOX := zaa.mk hbox
   gi_wp2
   rw [← hw3]
   refine ⟨trivial, (CallsIn.inRound l (callsIn_wide.2 HCL.out)).mono ?_⟩
   rintro e w4 ⟨v, rfl, hR4, hb4⟩
   have hbox4 := (hb4.block _ (zam hbox)).trans hbox
   obtain ⟨Av, cv, hv⟩ := Kd.zaR hR4
   subst hv
   have g0 := zah hbox4 0
   have g1 := zah hbox4 1
   have g2 := zah hbox4 2
   have f0 := free_at hbox4 0
   have f1 := free_at hbox4 1
   have f2 := free_at hbox4 2
   simp only [List.getElem?_toArray, List.getElem?_cons_zero, List.getElem?_cons_succ] at g0 g1 g2
   have HR4 := zaa.mk hR4
   have HB4 := zaa.mk (HB3.out.trans (hb4.mono HB3.out.size))
   have HBOX4 := zaa.mk hbox4
   have HS3 := zaa.mk (show w2.heap.size < w3.heap.size from zam hbox)
   clear hR4 hb4 hbox hbox4 hb3 HCL HBOX HC1 hle hw3
   gi_wp2
   obtain ⟨WA, hWA⟩ : ∃ WA, WA = w4.setCell ⟨w2.heap.size, 1, none⟩ (.slice Av y.f1.length cv) := ⟨_, rfl⟩
   have hBA : Below W.heap.size W WA := by rw [hWA]; exact HB4.out.trans (((Mv.refl (fun k => W.heap.size ≤ k) w4).setCell (p := ⟨w2.heap.size, 1, none⟩) (.inl HB2.out.size) _).below HB4.out.size (fun _ h => h))
   have bx : WA.heap[w2.heap.size]? = some (.cells #[.string y.f0, .slice Av y.f1.length cv, .string y.f2] 51 (0, 0)) := by rw [hWA]; exact zaK HBOX4.out 1 _ rfl
   have hRA : Kd.R k48 48 WA w3.heap.size (fun _ => True) (.slice Av y.f1.length cv) y.f1 := by rw [hWA]; exact Kd.R_set HR4.out HBOX4.out d9 1 _
   have hlt6 := zam HI.out.p6.1
   have hlt7 := zam HI.out.p7.1
   have hlt8 := zam HI.out.p8.1
   have hw2 := HB2.out.size
   have p6 := (hBA.block _ hlt6).trans HI.out.p6.1
   have p7 := (hBA.block _ hlt7).trans HI.out.p7.1
   have p8 := (hBA.block _ hlt8).trans HI.out.p8.1
   have hBB := HI.out.bl.trans (hBA.mono HI.out.bl.size)
   have hCA : ∀ w', Mv (fun k => k = w.heap.size + 1) WA w' → Kd.C k43 w' (some ad) t.length t := fun w' h => hCb _ (hBB.trans (h.below hBB.size (fun k e => by omega)))
   have HCA := zaa.mk hCA
   have HRA := zaa.mk hRA
   have HBA := zaa.mk hBA
   have BX := zaa.mk bx
   have P6 := zaa.mk p6
   have P7 := zaa.mk p7
   have P8 := zaa.mk p8
   have hxl := zcd t _ _ _ x (HPRE.out.subset s9)
   have HXL := zaa.mk hxl
   rw [← hWA]
   clear hBA bx hRA p6 p7 p8 hCA hBB hxl hWA g0 g1 g2 f0 f1 f2 x3 x0
   refine zcV (N := 38) 6 (Res (w.heap.size + 1) (.cells #[.string y.f0, .slice Av y.f1.length cv, .string y.f2] 51 (0, 0))) k9 k9 k9 (fun _ _ h => h) rfl (Res.refl _ _) (Res.trans) ?_
   rw [show List.range 6 = [0, 1, 2, 3, 4, 5] from rfl]
   refine zbl (.agg #[.string y.f0, .slice Av y.f1.length cv, .string y.f2]) (Res.refl _ _) rfl (fun _ _ _ _ => zax rfl) ?_ ?_
   ·
    intro a w' hr hs
    have h5 := hs.out 10 k9
    have hb := hr.mv.at BX.out o9
    have c0 := zah hb 0
    have c1 := zah hb 1
    have c2 := zah hb 2
    simp only [List.getElem?_toArray, List.getElem?_cons_zero, List.getElem?_cons_succ] at c0 c1 c2
    go_simp
   refine zbl (.pointer (some (ad.add (x * 4)))) (Res.refl _ _) rfl (fun _ _ _ _ => zax rfl) ?_ ?_
   ·
    intro a w' hr hs
    have h5 := hs.out 9 k9
    go_simp
   refine zbl (.pointer (some (ad.add (x * 4)))) (Res.refl _ _) rfl (fun _ _ _ _ => zax rfl) ?_ ?_
   ·
    intro a w' hr hs
    have h5 := hs.get 0 rfl k9 rfl
    simp only at h5
    go_simp
   refine zbl (.pointer (some (ad.add (x * 4)))) (Res.refl _ _) rfl (fun _ _ _ _ => zax rfl) ?_ ?_
   ·
    intro a w' hr hs
    have h5 := hs.get 0 rfl k9 rfl
    simp only at h5
    go_simp
   refine zbl (.string (clsAt t x).f0) (Res.refl _ _) rfl (fun _ _ _ _ => zax rfl) ?_ ?_
   ·
    intro a w' hr hs
    have h5 := hs.get 0 rfl k9 rfl
    simp only at h5
    obtain ⟨ad', A2', c2', A3', c3', e', x0, _⟩ := zb0 (HCA.out w' ((Mv.refl _ WA).drew.trans hr.mv)) (x : Int) o9 (by have := HXL.out; omega)
    cases e'
    simp only [Int.toNat_natCast] at x0
    unfold clsAt
    go_simp
   refine zhi (fun W => W.heap[w.heap.size + 1]? = some (.cells #[.string y.f0, .slice Av y.f1.length cv, .string y.f2] 51 (0, 0))) (fun _ _ h => h.keep) rfl (fun _ _ _ _ => zax rfl) ?_ ?_
   ·
    intro a w' hr hs
    have h5 := hs.get 4 rfl k9 rfl
    have h6 := hs.out 6 k9
    simp only at h5
    obtain ⟨k0, k1, k2, hk⟩ : ∃ k0 k1 k2, w'.heap[w.heap.size + 1]? = some (.cells #[k0, k1, k2] 51 (0, 0)) := by
     rcases hr.val with e | e
     ·
      exact ⟨_, _, _, e.trans P6.out⟩
     ·
      exact ⟨_, _, _, e⟩
    have fin := zaK (zaK (zaK hk 0 (.string y.f0) rfl) 1 (.slice Av y.f1.length cv) rfl) 2 (.string y.f2) rfl
    have f0 := free_at hk 0
    have f1 := free_at hk 1
    have f2 := free_at hk 2
    have g0 := zah hk 0
    have g1 := zah hk 1
    have g2 := zah hk 2
    simp only [List.getElem?_toArray, List.getElem?_cons_zero, List.getElem?_cons_succ] at g0 g1 g2
    refine ⟨((w'.setCell ⟨w.heap.size + 1, 0, none⟩ (.string y.f0)).setCell ⟨w.heap.size + 1, 1, none⟩ (.slice Av y.f1.length cv)).setCell ⟨w.heap.size + 1, 2, none⟩ (.string y.f2), ?_, ⟨(((Mv.refl (fun k => k = w.heap.size + 1) w').setCell (p := ⟨w.heap.size + 1, 0, none⟩) (.inl rfl) _).setCell (p := ⟨w.heap.size + 1, 1, none⟩) (.inl rfl) _).setCell (p := ⟨w.heap.size + 1, 2, none⟩) (.inl rfl) _, .inr fin⟩, fin⟩
    clear fin hk
    go_simp
   intro vs w5 hr hE
   rw [show List.range 6 = [0, 1, 2, 3, 4, 5] from rfl]
   simp only [List.mem_cons, List.not_mem_nil, or_false, forall_eq_or_imp, forall_eq] at hE
   obtain ⟨q6, g4, g3, g2, g1, g0⟩ := hE
   simp only [putL, zaM, List.getElem?_toArray, List.getElem?_cons_succ, List.getElem?_cons_zero, Option.bind_some, Act.put, List.setIfInBounds_toArray, List.set_cons_succ, List.set_cons_zero, g4, g3, g2, g1, g0]
   have p7 := hr.mv.at P7.out o9
   have p8 := hr.mv.at P8.out o9
   have c7 := zah p7 0
   have f7 := free_at p7 0
   simp only [List.getElem?_toArray, List.getElem?_cons_zero] at c7
   have p8' := at_set p8 (p := ⟨w.heap.size + 2, 0, none⟩) s9 (.string (clsAt t x).f0)
   have c8 := zah p8' 0
   have f8 := free_at p8' 0
   simp only [List.getElem?_toArray, List.getElem?_cons_zero] at c8
   refine zbY (i := 6) (r := [7]) (w' := w5.setCell ⟨w.heap.size + 2, 0, none⟩ (.string (clsAt t x).f0)) rfl (zax rfl) q9 ?_
   refine zbY (i := 7) (r := []) (w' := (w5.setCell ⟨w.heap.size + 2, 0, none⟩ (.string (clsAt t x).f0)).setCell ⟨w.heap.size + 3, 0, none⟩ (.bool true)) rfl (zax rfl) q9 (zbd ?_)
   have q6' := at_set (at_set q6 (p := ⟨w.heap.size + 2, 0, none⟩) s9 (.string (clsAt t x).f0)) (p := ⟨w.heap.size + 3, 0, none⟩) s9 (.bool true)
   have q7' := at_set (zaK p7 0 (.string (clsAt t x).f0) rfl) (p := ⟨w.heap.size + 3, 0, none⟩) s9 (.bool true)
   have q8' := zaK p8' 0 (.bool true) rfl
   have hmvA : Mv (fun k => k = w.heap.size + 1 ∨ k = w.heap.size + 2 ∨ k = w.heap.size + 3) WA ((w5.setCell ⟨w.heap.size + 2, 0, none⟩ (.string (clsAt t x).f0)).setCell ⟨w.heap.size + 3, 0, none⟩ (.bool true)) :=
    ((((Mv.refl _ WA).drew.trans hr.mv).mono (fun _ _ h => .inl h)).setCell (p := ⟨w.heap.size + 2, 0, none⟩) (.inl (.inr (.inl rfl))) _).setCell (p := ⟨w.heap.size + 3, 0, none⟩) (.inl (.inr (.inr rfl))) _
   obtain ⟨WF, hWF⟩ : ∃ WF, WF = (w5.setCell ⟨w.heap.size + 2, 0, none⟩ (.string (clsAt t x).f0)).setCell ⟨w.heap.size + 3, 0, none⟩ (.bool true) := ⟨_, rfl⟩
   rw [← hWF] at q6' q7' q8' hmvA ⊢
   have Q6 := zaa.mk q6'
   have Q7 := zaa.mk q7'
   have Q8 := zaa.mk q8'
   have HMA := zaa.mk hmvA
   clear q6' q7' q8' hmvA hWF p7 p8 p8' c7 c8 f7 f8 q6 g0 g1 g2 g3 g4
   gi_wp2
   have hno6 := HI.out.p6.2
   have hno7 := HI.out.p7.2
   have hno8 := HI.out.p8.2
   have hmall : Mv (fun k => ¬ (O k ∨ k < w.heap.size)) W WF := (Mv.zbN HBA.out _).trans (HMA.out.mono (fun k _ h => by
    rintro (h' | h')
    ·
     rcases h with rfl | rfl | rfl
     ·
      exact hno6 h'
     ·
      exact hno7 h'
     ·
      exact hno8 h'
    ·
     omega))
   refine ⟨hmall, rfl, ⟨x, .slice Av y.f1.length cv, zeF HSN.out HPRE.out, ⟨?_, hno6⟩, ⟨Q7.out, hno7⟩, ?_⟩, ⟨Q8.out, hno8⟩, HI.out.bl.trans (hmall.below HI.out.bl.size (fun k h => Nat.not_lt.1 (fun h' => h (.inr h')))), HI.out.lo⟩
   ·
    have e : methM t nm (some x) = y := HY.out.symm
    rw [e]; exact Q6.out
   ·
    have e : methM t nm (some x) = y := HY.out.symm
    have hs3 := HS3.out
    rw [e]
    have h1 := Kd.zbM (Kd.zaz (Kd.za0 HRA.out) (ok' := fun k => w3.heap.size ≤ k) (fun k h => h.2.1)) (w1 := WF) (fun k hk hl => HMA.out.block k hl (by rintro (rfl | rfl | rfl) <;> omega))
    exact Kd.zbm (Kd.zaz h1 (fun k hk h => by have := HOL.out k h; omega)) o9
 case done =>
  intro D xs O W hD hOD hOl hS hI hK
  subst hS
  have HI := zaa.mk hI
  have c6 := zah hI.p6.1 0
  have c61 := zah hI.p6.1 1
  have c62 := zah hI.p6.1 2
  have c7 := zah hI.p7.1 0
  have c8 := zah hI.p8.1 0
  have f6 := free_at hI.p6.1 0
  have f61 := free_at hI.p6.1 1
  have f62 := free_at hI.p6.1 2
  have f7 := free_at hI.p7.1 0
  have f8 := free_at hI.p8.1 0
  simp only [List.getElem?_toArray, List.getElem?_cons_zero, List.getElem?_cons_succ] at c6 c61 c62 c7 c8
  clear hI
  gi_wp2
  have hne : ∀ k, ¬ O k → k ≠ D := fun k h e => h (e ▸ hOD)
  have hD6 := hne _ HI.out.p6.2
  have hD7 := hne _ HI.out.p7.2
  have hD8 := hne _ HI.out.p8.2
  have z6 : (((W.setCell ⟨w.heap.size + 1, 0, none⟩ (.string ⟨#[]⟩)).setCell ⟨w.heap.size + 1, 1, none⟩ (.slice none 0 0)).setCell ⟨w.heap.size + 1, 2, none⟩ (.string ⟨#[]⟩)).heap[w.heap.size + 1]? = some (.cells #[.string ⟨#[]⟩, .slice none 0 0, .string ⟨#[]⟩] 51 (0, 0)) :=
   zaK (zaK (zaK HI.out.p6.1 0 _ rfl) 1 _ rfl) 2 _ rfl
  have hK5 := at_set (at_set (at_set (at_set (at_set hK (p := ⟨w.heap.size + 1, 0, none⟩) (Ne.symm hD6) (.string ⟨#[]⟩)) (p := ⟨w.heap.size + 1, 1, none⟩) (Ne.symm hD6) (.slice none 0 0)) (p := ⟨w.heap.size + 1, 2, none⟩) (Ne.symm hD6) (.string ⟨#[]⟩)) (p := ⟨w.heap.size + 2, 0, none⟩) (Ne.symm hD7) (.string ⟨#[]⟩)) (p := ⟨w.heap.size + 3, 0, none⟩) (Ne.symm hD8) (.bool false)
  have z7 := zaK (w := ((W.setCell ⟨w.heap.size + 1, 0, none⟩ (.string ⟨#[]⟩)).setCell ⟨w.heap.size + 1, 1, none⟩ (.slice none 0 0)).setCell ⟨w.heap.size + 1, 2, none⟩ (.string ⟨#[]⟩)) (g := w.heap.size + 2) (cs := #[.string ⟨#[]⟩]) (t := 9) (at_set (at_set (at_set HI.out.p7.1 (p := ⟨w.heap.size + 1, 0, none⟩) s9 _) (p := ⟨w.heap.size + 1, 1, none⟩) s9 _) (p := ⟨w.heap.size + 1, 2, none⟩) s9 _) 0 (.string ⟨#[]⟩) rfl
  have z8 := zaK (at_set (at_set (at_set (at_set HI.out.p8.1 (p := ⟨w.heap.size + 1, 0, none⟩) s9 (.string ⟨#[]⟩)) (p := ⟨w.heap.size + 1, 1, none⟩) s9 (.slice none 0 0)) (p := ⟨w.heap.size + 1, 2, none⟩) s9 (.string ⟨#[]⟩)) (p := ⟨w.heap.size + 2, 0, none⟩) s9 (.string ⟨#[]⟩)) 0 (.bool false) rfl
  refine ⟨by simp, .inl ⟨_, _, rfl, run_takeDeferred hK5, ?_⟩⟩
  rw [HI.out.no]
  refine ⟨_, zdU rfl _ _ ⟨w.heap.size + 1, 0, none⟩ ⟨w.heap.size + 2, 0, none⟩ ⟨w.heap.size + 3, 0, none⟩ (.agg #[.string ⟨#[]⟩, .slice none 0 0, .string ⟨#[]⟩]) (.string ⟨#[]⟩) (.bool false) rfl rfl rfl
   (run_loadVar_row _ _ _ _ _ _ _ (zcm (at_set (at_set z6 s9 _) s9 _) hD6 _) hu61 rfl k9) (zdr (by simp [isAgg, run_underlying Tryd.underlying9]) (zcm (at_set z7 s9 _) hD7 _)) (zdr (by simp [isAgg, run_underlying Tryd.underlying4]) (zcm z8 hD8 _)), ?_⟩
  refine ⟨.slice none 0 0, rfl, Kd.R_nil _ _ _ _ _, ?_⟩
  exact HI.out.bl.trans (((((((Mv.refl (fun k => w.heap.size ≤ k) W).setCell (p := ⟨w.heap.size + 1, 0, none⟩) (.inl s9) _).setCell (p := ⟨w.heap.size + 1, 1, none⟩) (.inl s9) _).setCell (p := ⟨w.heap.size + 1, 2, none⟩) (.inl s9) _).setCell (p := ⟨w.heap.size + 2, 0, none⟩) (.inl s9) _).setCell (p := ⟨w.heap.size + 3, 0, none⟩) (.inl s9) _).putObj (r := D) (.inl (HI.out.lo D hOD)) (.deferred none) |>.below HI.out.bl.size (fun _ h => h))
 case stop =>
  rintro D c pre O W hD hOD hOl ⟨rfl, hX⟩ hK
  obtain ⟨⟨p, v, i1, i2, i3, i4⟩, i5, i6, i7⟩ := hX
  gi_wp2
  rw [i1]
  have hne : ∀ k, ¬ O k → k ≠ D := fun k h e => h (e ▸ hOD)
  refine ⟨by simp, .inl ⟨_, _, rfl, run_takeDeferred hK, ?_⟩⟩
  refine ⟨_, zdU rfl _ _ ⟨w.heap.size + 1, 0, none⟩ ⟨w.heap.size + 2, 0, none⟩ ⟨w.heap.size + 3, 0, none⟩ (.agg #[.string (methM t nm (some p)).f0, v, .string (methM t nm (some p)).f2]) (.string (methC t (some p))) (.bool true) rfl rfl rfl
   (run_loadVar_row _ _ _ _ _ _ _ (zcm i2.1 (hne _ i2.2) _) hu61 rfl k9) (zdr (by simp [isAgg, run_underlying Tryd.underlying9]) (zcm i3.1 (hne _ i3.2) _)) (zdr (by simp [isAgg, run_underlying Tryd.underlying4]) (zcm i5.1 (hne _ i5.2) _)), ?_⟩
  refine ⟨v, rfl, Kd.zaz (Kd.zbM i4 (fun k hk hl => World.putObj_heap_other (hne k hk))) (fun _ _ => trivial), ?_⟩
  exact i6.trans (((Mv.refl (fun k => w.heap.size ≤ k) W).putObj (r := D) (.inl (i7 D hOD)) (.deferred none)).below i6.size (fun _ h => h))
end Go.Proofs.YtfhgmebhdchegaaDoorTab
end

section
namespace Go.Proofs.YtfhgmebhdchegaaDoorMp
open Go.RowKit Go.Proofs.YtfhgmebhdchegaaDoorW.zai Go.Proofs.YtfhgmebhdchegaaDoorRF
open Go.Instr
section
variable {α β : Type} (kenc : α → Value) (venc : β → Value)
def ent (e : α × β × Nat) : MapEntry := { key := kenc e.1, val := venc e.2.1, born := e.2.2 }
def zck (L : List (α × β × Nat)) (c : Nat) : Obj := .map (L.map (ent kenc venc)).toArray c
end
structure KeyLaw {α : Type} (P : Program) (K : TypeId) (kenc : α → Value) (keq : α → α → Bool) : Prop where
 check : ∀ e a w, (checkKey e 10000 K (kenc a)).run P w = .ok () w
 eq : ∀ a b w, (Op.equal K (kenc a) (kenc b)).run P w = .ok (keq a b) w
 now : ∃ d, P.underlying K = some d ∧ ∀ a b, sameNow d (kenc a) (kenc b) = none ∨ sameNow d (kenc a) (kenc b) = some (keq a b)
 bits : ∀ a b, keq a b = true → a = b ∧ sameBits 10000 (kenc b) (kenc a) = true
section
variable {α β : Type} {P : Program} {K : TypeId} {kenc : α → Value} {venc : β → Value} {keq : α → α → Bool}
def zbC (keq : α → α → Bool) (k : α) : List (α × β × Nat) → Nat → Option (Nat × β)
 | [], _ => none
 | e :: r, i => if keq k e.1 = true then some (i, e.2.1) else zbC keq k r (i + 1)
theorem zcL (h : KeyLaw P K kenc keq) (k : α) (w : World) : ∀ (L : List (α × β × Nat)) (i : Nat), (findAsking K (kenc k) (L.map (ent kenc venc)) i).run P w = .ok ((zbC keq k L i).map fun x => (x.1, venc x.2)) w
 | [], i => by simp [findAsking, zbC, Sem.run_pure]
 | e :: r, i => by
  simp only [List.map_cons, findAsking, Sem.run_bind, ent, h.eq, Result.andThen, zbC]
  cases hk : keq k e.1
  ·
   simpa using zcL h k w r (i + 1)
  ·
   simp [Sem.run_pure]
theorem zdw {d : TypeDesc} (hs : ∀ a b, sameNow d (kenc a) (kenc b) = none ∨ sameNow d (kenc a) (kenc b) = some (keq a b)) (k : α) : ∀ (L : List (α × β × Nat)) (i : Nat) (r : Option (Nat × Value)), findNow d (kenc k) (L.map (ent kenc venc)) i = some r → r = (zbC keq k L i).map fun x => (x.1, venc x.2)
 | [], i, r, h => by simp [findNow] at h; simp [zbC, h]
 | e :: L, i, r, h => by
  simp only [List.map_cons, findNow, ent] at h
  rcases hs k e.1 with hn | hn
  ·
   rw [hn] at h; cases h
  ·
   rw [hn] at h
   cases hk : keq k e.1
   ·
    rw [hk] at h; simp only [zbC, hk, Bool.false_eq_true, if_false]; exact zdw hs k L (i + 1) r h
   ·
    rw [hk] at h; simp only [Option.some.injEq] at h; simp [zbC, hk, ← h]
theorem zdA (h : KeyLaw P K kenc keq) (k : α) (w : World) (L : List (α × β × Nat)) : (findKey K (kenc k) (L.map (ent kenc venc))).run P w = .ok ((zbC keq k L 0).map fun x => (x.1, venc x.2)) w := by
 obtain ⟨d, hd, hs⟩ := h.now
 simp only [findKey, Sem.run_bind, run_underlying hd, Result.andThen]
 cases hf : findNow d (kenc k) (L.map (ent kenc venc)) 0 with
 | none => exact zcL h k w L 0
 | some r => simp only [Sem.run_pure]; rw [zdw hs k L 0 r hf]
theorem run_getObj_map {w : World} {B : Nat} {es : Array MapEntry} {c : Nat} (h : w.heap[B]? = some (.map es c)) : (getObj B).run P w = .ok (.map es c) w := by simp [getObj, Sem.run, h]
theorem run_setObj_map {w : World} {B : Nat} {es : Array MapEntry} {c : Nat} (o : Obj) (h : w.heap[B]? = some (.map es c)) : (setObj B o).run P w = .ok () (w.putObj B o) := by simp [setObj, Sem.run, h, World.putObj]
theorem zeH (h : KeyLaw P K kenc keq) {T E : TypeId} (hT : P.underlying T = some (.map K E)) {z : Value} (hz : ∀ w, (zeroValue E).run P w = .ok z w) {w : World} {B : Nat} {L : List (α × β × Nat)} {c : Nat} (hB : w.heap[B]? = some (zck kenc venc L c)) (k : α) :
  (lookup T (.map (some B)) (kenc k) true).run P w = .ok (match zbC keq k L 0 with | some (_, v) => .tuple #[venc v, .bool true] | none => .tuple #[z, .bool false]) w := by
 unfold zck at hB
 simp only [lookup, Sem.run_bind, run_underlying hT, Result.andThen, run_getObj_map hB, Sem.run_pure, h.check, List.toList_toArray, zdA h]
 cases hf : zbC keq k L 0 with
 | none => simp [hz, Sem.run_bind, Result.andThen, Sem.run_pure]
 | some x => obtain ⟨i, v⟩ := x; simp [Sem.run_pure, Result.andThen]
def upd (keq : α → α → Bool) (k : α) (v : β) (c : Nat) (L : List (α × β × Nat)) : List (α × β × Nat) × Nat :=
 match zbC keq k L 0 with
 | some (i, _) => (L.modify i fun e => (k, v, e.2.2), c)
 | none => (L ++ [(k, v, c)], c + 1)
theorem zdZ (k : α) : ∀ (L : List (α × β × Nat)) (n i : Nat) (v : β), zbC keq k L n = some (i, v) → ∃ j, i = n + j ∧ j < L.length ∧ ∃ e, L[j]? = some e ∧ keq k e.1 = true
 | [], n, i, v, h => by simp [zbC] at h
 | e :: r, n, i, v, h => by
  simp only [zbC] at h
  by_cases hk : keq k e.1 = true
  ·
   rw [if_pos hk] at h; cases h; exact ⟨0, rfl, by simp, e, rfl, hk⟩
  ·
   rw [if_neg hk] at h
   obtain ⟨j, h1, h2, e', h3, h4⟩ := zdZ k r (n + 1) i v h
   exact ⟨j + 1, by omega, by simp; omega, e', by simpa using h3, h4⟩
theorem zfL (h : KeyLaw P K kenc keq) {T E : TypeId} (hT : P.underlying T = some (.map K E)) {w : World} {B : Nat} {L : List (α × β × Nat)} {c : Nat} (hB : w.heap[B]? = some (zck kenc venc L c)) (k : α) (v : β) :
  (mapUpdate T (.map (some B)) (kenc k) (venc v)).run P w = .ok () (w.putObj B (zck kenc venc (upd keq k v c L).1 (upd keq k v c L).2)) := by
 have hB' := hB
 unfold zck at hB
 simp only [mapUpdate, Sem.run_bind, run_underlying hT, Result.andThen, run_getObj_map hB, h.check, List.toList_toArray, zdA h]
 cases hf : zbC keq k L 0 with
 | none =>
  simp only [Option.map_none, run_setObj_map _ hB, upd, hf, zck]
  simp [ent]
 | some x =>
  obtain ⟨i, u⟩ := x
  obtain ⟨j, hj, hlt, e, he, hke⟩ := zdZ k L 0 i u hf
  obtain rfl : i = j := by omega
  obtain ⟨h1, h2⟩ := h.bits k e.1 hke
  have hold : ((((L.map (ent kenc venc)).toArray[i]?).map (·.key)).getD (kenc k)) = kenc e.1 := by simp [he, ent]
  simp only [Option.map_some, Sem.run_bind, keyThatStays, hold, h2, if_true, Sem.run_pure, Result.andThen, run_setObj_map _ hB, upd, hf, zck]
  congr 3
  refine Array.ext' ?_
  rw [List.toList_toArray, Array.toList_modify, List.toList_toArray]
  refine List.ext_getElem? fun q => ?_
  simp only [List.getElem?_modify, List.getElem?_map]
  by_cases hq : i = q
  ·
   subst hq; simp [he, ent]
  ·
   simp [hq]
end
end Go.Proofs.YtfhgmebhdchegaaDoorMp
end

section
namespace Go.Proofs.YtfhgmebhdchegaaDoorTab
open Go.RowKit Go.Proofs.YtfhgmebhdchegaaDoor.PAll Go.Proofs.YtfhgmebhdchegaaDoorW.zai Go.Proofs.YtfhgmebhdchegaaDoorW.zas Go.Proofs.YtfhgmebhdchegaaDoorRF Go.Proofs.YtfhgmebhdchegaaDoorRG Go.Proofs.YtfhgmebhdchegaaDoorMp
attribute [local go_sem] Oper.semAt_some
def skeq (a b : ByteArray) : Bool := a.toList == b.toList
theorem ze1 : KeyLaw Tryd.prog 9 Value.string skeq where
 check := fun e a w => by kernel_rfl
 eq := fun a b w => run_equalIn_string (P := Tryd.prog) (w := w) 9999 9 a b Tryd.underlying9
 now := ⟨_, Tryd.underlying9, fun a b => by
  by_cases h : Instr.sameNow (.string) (.string a) (.string b) = none
  ·
   exact .inl h
  ·
   right; simp [Instr.sameNow, skeq, beq_toListBytes] at h ⊢⟩
 bits := fun a b h => by
  simp only [skeq, beq_iff_eq] at h
  obtain rfl := toList_inj h
  exact ⟨rfl, by simp [Instr.sameBits]; exact (Go.MapKept.bytes_beq a a).mpr rfl⟩
theorem zfs (a b : ByteArray) : skeq a b = true ↔ a = b := by
 simp only [skeq, beq_iff_eq]
 exact ⟨fun h => toList_inj h, fun h => by rw [h]⟩
def nidx (k : ByteArray) : List ByteArray → Nat → Option Nat
 | [], _ => none
 | x :: r, i => if k = x then some i else nidx k r (i + 1)
theorem zd9 (k : ByteArray) : ∀ (l : List ByteArray) (n i : Nat), nidx k l n = some i → n ≤ i ∧ i < n + l.length ∧ l[i - n]? = some k
 | [], n, i, h => by simp [nidx] at h
 | x :: r, n, i, h => by
  unfold nidx at h
  by_cases hk : k = x
  ·
   rw [if_pos hk] at h
   obtain rfl : n = i := by simpa using h
   exact ⟨Nat.le_refl _, by simp, by simp [hk]⟩
  ·
   rw [if_neg hk] at h
   obtain ⟨h1, h2, h3⟩ := zd9 k r (n + 1) i h
   refine ⟨by omega, by simp; omega, ?_⟩
   rw [show i - n = (i - (n + 1)) + 1 by omega]
   simpa using h3
def entsS : List ByteArray → Nat → List (ByteArray × Int × Nat)
 | [], _ => []
 | x :: r, i => (x, (i : Int), i) :: entsS r (i + 1)
theorem zdd (k : ByteArray) : ∀ (l : List ByteArray) (i j : Nat), zbC skeq k (entsS l i) j = (nidx k l i).map fun q => (q - i + j, (q : Int))
 | [], i, j => rfl
 | x :: r, i, j => by
  unfold entsS zbC nidx
  by_cases h : k = x
  ·
   rw [if_pos ((zfs k x).2 h), if_pos h]; simp
  ·
   rw [if_neg (fun e => h ((zfs k x).1 e)), if_neg h, zdd k r (i + 1) (j + 1)]
   cases hn : nidx k r (i + 1) with
   | none => rfl
   | some q =>
    have := (zd9 k r (i + 1) q hn).1
    simp; omega
theorem zd4 (k : ByteArray) : ∀ (l : List ByteArray) (i : Nat), entsS (l ++ [k]) i = entsS l i ++ [(k, ((i + l.length : Nat) : Int), i + l.length)]
 | [], i => by simp [entsS]
 | x :: r, i => by
  rw [List.cons_append]
  unfold entsS
  rw [zd4 k r (i + 1)]
  simp [Nat.add_assoc, Nat.add_comm 1]
theorem zgg (k : ByteArray) (l : List ByteArray) (h : nidx k l 0 = none) : upd skeq k (l.length : Int) l.length (entsS l 0) = (entsS (l ++ [k]) 0, (l ++ [k]).length) := by
 unfold upd
 rw [zdd, h, zd4]
 simp
def zcB (a : Int) : Value := .agg #[.int .i64 a]
theorem zd1 (w : World) : (zeroValue 109).run Tryd.prog w = .ok (zcB 0) w := by kernel_rfl
def putS (out : List (S51)) (m : S51) : List (S51) := match nidx m.f0 (out.map (·.f0)) 0 with
 | some p => out.set p m
 | none => out ++ [m]
def zgT (t : List (S43)) (l : List Nat) : List (S51) := (l.flatMap fun p => (clsAt t p).f3).foldl putS []
def zcZ (t : List (S43)) (nm : ByteArray) : List (S51) := zgT t (lineL t nm).reverse
theorem zd2 (out : List (S51)) (m : S51) : (putS out m).map (·.f0) = match nidx m.f0 (out.map (·.f0)) 0 with | some _ => out.map (·.f0) | none => out.map (·.f0) ++ [m.f0] := by
 unfold putS
 cases h : nidx m.f0 (out.map (·.f0)) 0 with
 | none => simp
 | some p =>
  obtain ⟨_, _, h3⟩ := zd9 _ _ 0 p h
  simp only [Nat.sub_zero] at h3
  refine List.ext_getElem? fun q => ?_
  simp only [List.getElem?_map, List.getElem?_set]
  by_cases hq : p = q
  ·
   subst hq
   simp only [List.getElem?_map] at h3
   by_cases hl : p < out.length
   ·
    simp [hl]
    simp [hl] at h3
    exact h3.symm
   ·
    simp [hl]
  ·
   simp [hq]
theorem zgD (out : List (S51)) (m : S51) : out.length ≤ (putS out m).length ∧ (putS out m).length ≤ out.length + 1 := by
 unfold putS
 cases h : nidx m.f0 (out.map (·.f0)) 0 with
 | none => simp
 | some p => simp
theorem zfh (ms : List (S51)) : ∀ (out : List (S51)), out.length ≤ (ms.foldl putS out).length ∧ (ms.foldl putS out).length ≤ out.length + ms.length := by
 induction ms with
 | nil => intro out; simp
 | cons m r ih =>
  intro out
  have h1 := ih (putS out m)
  have h2 := zgD out m
  simp only [List.foldl_cons, List.length_cons]
  omega
theorem zhg : (Tryd.prog.info? 51).map (fun i => (i.zero, i.size, i.bytes)) = some (some (.agg #[(.string ⟨#[]⟩), (.slice none 0 0), (.string ⟨#[]⟩)]), 3, 56) := by kernel_rfl
structure MS (w1 : World) (B : Nat) (out : List (S51)) (v : Value) (wr : World) : Prop where
 bM : wr.heap[B]? = some (zck Value.string zcB (entsS (out.map (·.f0)) 0) (out.map (·.f0)).length)
 mv : Mv (fun k => k = B ∨ w1.heap.size ≤ k) w1 wr
 ho : Kd.S k51 51 wr w1.heap.size (fun _ => True) v out
theorem MS.bl {w w1 wr : World} {B : Nat} {out : List (S51)} {v : Value} (h : MS w1 B out v wr) (hb : Below w.heap.size w w1) (hB : w.heap.size ≤ B) : Below w.heap.size w wr :=
 hb.trans (h.mv.below hb.size (fun k e => by have := hb.size; omega))
theorem zeN {w : World} {B : Nat} {L : List (ByteArray × Int × Nat)} {c : Nat} (hB : w.heap[B]? = some (zck Value.string zcB L c)) {k : ByteArray} {i : Nat} {v : Int} (hf : zbC skeq k L 0 = some (i, v)) :
  (Instr.lookup 106 (.map (some B)) (.string k) true).run Tryd.prog w = .ok (.tuple #[.agg #[.int .i64 v], .bool true]) w := by
 have h := zeH (P := Tryd.prog) (T := 106) (venc := zcB) ze1 Tryd.underlying106 zd1 hB k
 rw [hf] at h
 exact h
theorem ze3 {w : World} {B : Nat} {L : List (ByteArray × Int × Nat)} {c : Nat} (hB : w.heap[B]? = some (zck Value.string zcB L c)) {k : ByteArray} (hf : zbC skeq k L 0 = none) :
  (Instr.lookup 106 (.map (some B)) (.string k) true).run Tryd.prog w = .ok (.tuple #[.agg #[.int .i64 0], .bool false]) w := by
 have h := zeH (P := Tryd.prog) (T := 106) (venc := zcB) ze1 Tryd.underlying106 zd1 hB k
 rw [hf] at h
 exact h
theorem cell_below {w w' : World} (hb : Below w.heap.size w w') {a : Addr} {u : Value} (h : w.cell? a = some u) : w'.cell? a = some u := by
 have hlt : a.block < w.heap.size := by
  refine Classical.byContradiction fun hc => ?_
  have hn : w.heap[a.block]? = none := Array.getElem?_eq_none (Nat.le_of_not_lt hc)
  unfold World.cell? at h
  rw [hn] at h
  simp at h
 rw [← h]
 exact World.cell?_of_block (hb.block _ hlt)
theorem zc7 (A0 : Option Addr) (c0 : Nat) (t : List (S43)) (nm : ByteArray) (w : World) (hr0 : Kd.C k43 w A0 t.length t) (hs : Small t) (hml : ((lineL t nm).reverse.flatMap fun p => (clsAt t p).f3).length < 2199023255552) :
  Calls Tryd.prog 36 #[.slice A0 t.length c0, .string nm] w fun e w' => ∃ v, e = .returned v ∧ Kd.S k51 51 w' w.heap.size (fun _ => True) v (zcZ t nm) ∧ Below w.heap.size w w' := by
 have hu := Tryd.underlying43
 have hu61 := Tryd.underlying51
 obtain ⟨B, hB⟩ : ∃ B, B = w.heap.size := ⟨_, rfl⟩
 obtain ⟨W0, hW0⟩ : ∃ W : World, W = w.alloc (.map #[] 0) := ⟨_, rfl⟩
 have hmm : (Instr.makeMap 106 none).run Tryd.prog w = .ok (.map (some B)) W0 := by rw [hW0, hB]; rfl
 have hbW0 : Below w.heap.size w W0 := by rw [hW0]; exact (Below.refl _ _).alloc (Nat.le_refl _) _
 have HMS0 := zaa.mk (show W0.heap[B]? = some (zck Value.string zcB (entsS [] 0) 0) ∧ Below w.heap.size w W0 from ⟨by rw [hW0]; exact at_new _ _ hB, hbW0⟩)
 have HBB := zaa.mk (show w.heap.size ≤ B by omega)
 have HLI := zaa.mk (zdP A0 c0 t nm W0 (Kd.zay hr0 hbW0) hs.all)
 have HR0 := zaa.mk hr0
 have HS := zaa.mk hs
 unfold zcZ zgT
 have hLL : (lineL t nm).reverse.length ≤ t.length + 1 := by rw [List.length_reverse]; exact zci t nm
 have hin : ∀ q ∈ (lineL t nm).reverse, q < t.length := fun q hq => zcd t _ _ _ q (List.mem_reverse.1 hq)
 obtain ⟨L, hL⟩ : ∃ L, L = (lineL t nm).reverse := ⟨_, rfl⟩
 rw [← hL] at hin hLL hml ⊢
 rw [← hL] at HLI
 have HIN := zaa.mk hin
 have HML := zaa.mk hml
 have hlt := hs.all
 clear hr0 hL hin hml hB hW0 hbW0 hs
 go_enter Tryd.func36, Tryd.ntmps36
 go_wp2_with fail
 refine HLI.out.mono ?_
 rintro e w1 ⟨v, rfl, hR1, hb1⟩
 obtain ⟨A9, c9, rfl, hc9, hC9⟩ := Kd.zbB hR1
 have HC9 := zaa.mk hC9
 have bM1 := (hb1.block _ (zam HMS0.out.1)).trans HMS0.out.1
 have HMS1 := zaa.mk (show MS w1 B [] (.slice none 0 0) w1 from ⟨bM1, Mv.refl _ _, Kd.S_nil _ _ _ _ _⟩)
 have HB1 := zaa.mk (HMS0.out.2.trans (hb1.mono HMS0.out.2.size))
 have HRL := zaa.mk (And.intro hR1 bM1)
 clear hR1 hC9 hb1 hc9 HLI HMS0 HC9 bM1
 go_wp2_with fail
 go_loopw [4, 17] (fun v4 v17 wr => ∃ i : Nat, i ≤ L.length ∧ v17 = .int .i64 i ∧ zaa (MS w1 B (((L.take i).flatMap fun p => (clsAt t p).f3).foldl putS []) v4 wr)) (fun _ v17 _ => L.length - (intOf v17).toNat)
 case atStart => exact ⟨0, Nat.zero_le _, rfl, HMS1⟩
 case round =>
  clear HMS1 hmm
  obtain ⟨i, hi, rfl, HM⟩ := hrel
  by_cases hlt2 : i < L.length
  ·
   have hRr := Kd.zbM (w1 := wr) (Kd.za0 HRL.out.1) (fun k hk hl => HM.out.mv.block k hl (fun e => by
    rcases e with e | e
    ·
     obtain ⟨_, _, _, q, _, cs, hc⟩ := hk
     have := HRL.out.2
     rw [← e, hc] at this; cases this
    ·
     omega))
   obtain ⟨A9', c9', e9, _, hC9⟩ := Kd.zbB hRr
   cases e9
   obtain ⟨ad9, hA9, x9⟩ := (Kd.zcK (d := 0) hC9).at_ (i : Int) o9 o9
   obtain ⟨p, hp⟩ : ∃ p, p = rdOf 0 L (i : Int) := ⟨_, rfl⟩
   have hpe : L[i]? = some p := by
    rw [hp]; unfold rdOf
    rw [Int.toNat_natCast, List.getD_eq_getElem?_getD, List.getElem?_eq_getElem hlt2]; rfl
   have hpl : p < t.length := HIN.out _ (List.mem_of_getElem? hpe)
   have hsn : (L.take (i + 1)).flatMap (fun p => (clsAt t p).f3) = (L.take i).flatMap (fun p => (clsAt t p).f3) ++ (clsAt t p).f3 := by
    rw [List.take_add_one, hpe]
    simp
   have htot : ((L.take i).flatMap fun p => (clsAt t p).f3).length + (clsAt t p).f3.length < 2199023255552 := by
    have h1 := HML.out
    rw [← List.take_append_drop (i + 1) L, List.flatMap_append, hsn] at h1
    simp only [List.length_append] at h1
    omega
   rw [← hp] at x9
   obtain ⟨ad, A2, c2, A3, c3, hA0, x0, x1, x2, x3, l2, C2, l3, C3⟩ := zb0 HR0.out (p : Int) o9 o9
   rw [Int.toNat_natCast] at x9
   simp only [Int.toNat_natCast] at x0 x1 x2 x3
   subst hA9
   subst hA0
   simp only [encP, Option.map_some] at x9
   obtain ⟨ms, hms⟩ : ∃ ms, ms = (clsAt t p).f3 := ⟨_, rfl⟩
   have hx3 := cell_below (HM.out.bl HB1.out HBB.out) x3
   change wr.cell? _ = some (.slice A3 (clsAt t p).f3.length c3) at hx3
   change Kd.C k51 w A3 (clsAt t p).f3.length (clsAt t p).f3 at C3
   have hps : ∀ m ∈ ms, m.f1.length < 4398046511104 := by rw [hms]; exact HS.out.ps p hpl
   rw [← hms] at hx3 C3 hsn htot
   obtain ⟨pre, hpre⟩ : ∃ pre, pre = ((L.take i).flatMap fun p => (clsAt t p).f3) := ⟨_, rfl⟩
   rw [← hpre] at hsn htot HM
   have hol := (zfh pre []).2
   have HC3 := zaa.mk C3
   have HPS := zaa.mk hps
   have HSN := zaa.mk hsn
   have HTOT := zaa.mk (show (pre.foldl putS []).length + ms.length < 2199023255552 by simp at hol; omega)
   obtain ⟨acc, hacc⟩ : ∃ acc, acc = pre.foldl putS [] := ⟨_, rfl⟩
   rw [← hacc] at HM HTOT
   have HACC := zaa.mk hacc
   have HMW := zaa.mk HM.out
   have HP := zaa.mk (And.intro hpl hms)
   clear HM hRr hC9 x0 x1 x2 x3 C2 C3 l2 l3 hpe hpl hsn htot hp hms hpre hol hacc hps
   have i0 : (0 : Int) ≤ (i : Int) := by omega
   have i1 : (i : Int) < (L.length : Int) := by omega
   go_wp2_with fail
   rename World => wo
   go_loopw [4, 26] (fun v4 v26 wq => ∃ j : Nat, j ≤ ms.length ∧ v26 = .int .i64 j ∧ zaa (MS w1 B ((ms.take j).foldl putS acc) v4 wq)) (fun _ v26 _ => ms.length - (intOf v26).toNat)
   case atStart => exact ⟨0, Nat.zero_le _, rfl, HMW⟩
   case round =>
    obtain ⟨j, hj, rfl, HQ⟩ := hrel
    by_cases hlj : j < ms.length
    ·
     obtain ⟨adm, A1, c1, hAm, m0, m1, m2, ml, MC⟩ := zdF (Kd.zay HC3.out (HQ.out.bl HB1.out HBB.out)) (j : Int) o9 o9
     rw [Int.toNat_natCast] at m0 m1 m2
     subst hAm
     obtain ⟨m, hm⟩ : ∃ m, m = zaQ ms (j : Int) := ⟨_, rfl⟩
     rw [← hm] at m0 m1 m2 ml MC
     have hpsm : m.f1.length < 4398046511104 := HPS.out m (by
      rw [hm]
      unfold zaQ
      rw [Int.toNat_natCast, List.getD_eq_getElem?_getD, List.getElem?_eq_getElem hlj]
      exact List.getElem_mem hlj)
     have hmj : ms[j]? = some m := by
      rw [hm]
      unfold zaQ
      rw [Int.toNat_natCast, List.getD_eq_getElem?_getD, List.getElem?_eq_getElem hlj]; rfl
     obtain ⟨out, hout⟩ : ∃ out, out = (ms.take j).foldl putS acc := ⟨_, rfl⟩
     rw [← hout] at HQ
     have hfold : (ms.take (j + 1)).foldl putS acc = putS out m := by
      rw [List.take_add_one, hmj, hout]
      simp [List.foldl_append]
     have hol : out.length + 1 ≤ 2199023255552 := by
      have h1 := (zfh (ms.take j) acc).2
      have h2 := HTOT.out
      have h3 : (ms.take j).length ≤ j := by simp; omega
      rw [← hout] at h1
      omega
     obtain ⟨W1, hW1⟩ : ∃ W1, W1 = wr.alloc (.cells #[.string m.f0, .slice A1 m.f1.length c1, .string m.f2] 51) := ⟨_, rfl⟩
     have hb1 : Below wr.heap.size wr W1 := by rw [hW1]; exact (Below.refl _ _).alloc (Nat.le_refl _) _
     have hbox : W1.heap[wr.heap.size]? = some (.cells #[.string m.f0, .slice A1 m.f1.length c1, .string m.f2] 51 (0, 0)) := by rw [hW1]; exact at_new _ _ rfl
     have hbx := hbox
     rw [hW1] at hbx
     have y0 := zah hbx 0
     have y1 := zah hbx 1
     have y2 := zah hbx 2
     simp only [List.getElem?_toArray, List.getElem?_cons_zero, List.getElem?_cons_succ] at y0 y1 y2
     have HCL := zaa.mk (zdn A1 c1 m.f1 W1 (Kd.zay MC hb1) hpsm)
     have HF := zaa.mk (And.intro hfold hol)
     have hmsl : ms.length < 2199023255552 := by have := HTOT.out; omega
     have HBX := zaa.mk (And.intro hb1 hbox)
     have HW1 := zaa.mk hW1
     clear hm hpsm hmj hout hfold hol hb1 hbox hbx MC ml hW1
     have j0 : (0 : Int) ≤ (j : Int) := by omega
     have j1 : (j : Int) < (ms.length : Int) := by omega
     go_wp2_with fail
     rw [← HW1.out]
     refine HCL.out.mono ?_
     rintro e w2 ⟨v2, rfl, hR2, hb2⟩
     obtain ⟨A5, c5, hv2⟩ := Kd.zaR hR2
     subst hv2
     have hbox2 := (hb2.block _ (zam HBX.out.2)).trans HBX.out.2
     have z1 := zah hbox2 1
     have fz1 := free_at hbox2 1
     simp only [List.getElem?_toArray, List.getElem?_cons_zero, List.getElem?_cons_succ] at z1
     obtain ⟨w3, hw3⟩ : ∃ w3, w3 = w2.setCell ⟨wr.heap.size, 1, none⟩ (.slice A5 m.f1.length c5) := ⟨_, rfl⟩
     have hbox3 : w3.heap[wr.heap.size]? = some (.cells #[.string m.f0, .slice A5 m.f1.length c5, .string m.f2] 51 (0, 0)) := by rw [hw3]; exact zaK hbox2 1 _ rfl
     have hB2 : Below wr.heap.size wr w2 := HBX.out.1.trans (hb2.mono HBX.out.1.size)
     have hB3 : Below wr.heap.size wr w3 := by rw [hw3]; exact hB2.trans (((Mv.refl (fun k => k = wr.heap.size) w2).setCell (p := ⟨wr.heap.size, 1, none⟩) (.inl rfl) _).below hB2.size (fun k h => by omega))
     have hszb : wr.heap.size < W1.heap.size := zam HBX.out.2
     have hR3 : Kd.R k48 48 w3 W1.heap.size (fun _ => True) (.slice A5 m.f1.length c5) m.f1 := by rw [hw3]; exact Kd.R_set hR2 hbox2 d9 1 _
     have hM3 := (hB3.block _ (zam HQ.out.bM)).trans HQ.out.bM
     have z3_0 := zah hbox3 0
     have z3_1 := zah hbox3 1
     have z3_2 := zah hbox3 2
     simp only [List.getElem?_toArray, List.getElem?_cons_zero, List.getElem?_cons_succ] at z3_0 z3_1 z3_2
     have HB3 := zaa.mk hB3
     have HBO3 := zaa.mk hbox3
     have HR3 := zaa.mk (And.intro hR3 hszb)
     have HW3 := zaa.mk hw3
     have hfi := zdd m.f0 (out.map (·.f0)) 0 0
     cases hn : nidx m.f0 (out.map (·.f0)) 0 with
     | none =>
      rw [hn] at hfi
      have hlk := ze3 hM3 hfi
      have hput : putS out m = out ++ [m] := by unfold putS; rw [hn]
      have hnm := zd2 out m
      rw [hn, hput] at hnm
      simp only at hnm
      rw [hw3] at hlk z3_0
      obtain ⟨W4, hW4⟩ : ∃ W4, W4 = w3.alloc (.cells #[.int .i64 0] 109) := ⟨_, rfl⟩
      have hB34 : Below w3.heap.size w3 W4 := by rw [hW4]; exact (Below.refl _ _).alloc (Nat.le_refl _) _
      have hM4 := (hB34.block _ (zam hM3)).trans hM3
      have hbox4 := (hB34.block _ (zam hbox3)).trans hbox3
      have hup := zfL (P := Tryd.prog) (T := 106) (venc := zcB) ze1 Tryd.underlying106 hM4 m.f0 ((out.map (·.f0)).length : Int)
      rw [zgg m.f0 (out.map (·.f0)) hn] at hup
      obtain ⟨w5, hw5⟩ : ∃ w5, w5 = W4.putObj B (zck Value.string zcB (entsS (out.map (·.f0) ++ [m.f0]) 0) (out.map (·.f0) ++ [m.f0]).length) := ⟨_, rfl⟩
      simp only [zcB] at hup
      have hne : wr.heap.size ≠ B := fun e => by have := zam HQ.out.bM; omega
      have hu5 : (Instr.mapUpdate 106 (.map (some B)) (.string m.f0) (.agg #[.int .i64 (out.length : Int)])).run Tryd.prog W4 = .ok () w5 := by
       rw [hw5]
       rw [List.length_map] at hup
       exact hup
      have y4_0 := zah hbox4 0
      simp only [List.getElem?_toArray, List.getElem?_cons_zero, List.getElem?_cons_succ] at y4_0
      rw [hW4, hw3] at hu5 y4_0
      have hbox5 : w5.heap[wr.heap.size]? = some (.cells #[.string m.f0, .slice A5 m.f1.length c5, .string m.f2] 51 (0, 0)) := by rw [hw5]; exact zcm hbox4 hne _
      have hM5 : w5.heap[B]? = some (zck Value.string zcB (entsS (out.map (·.f0) ++ [m.f0]) 0) (out.map (·.f0) ++ [m.f0]).length) := by rw [hw5]; exact World.putObj_heap_same (zam hM4)
      have hB4 : Below wr.heap.size wr W4 := hB3.trans (hB34.mono hB3.size)
      have hmv5 : Mv (fun k => k = B) W4 w5 := by rw [hw5]; exact (Mv.refl (fun k => k = B) W4).putObj (.inl rfl) _
      have hmvA : Mv (fun k => k = B ∨ wr.heap.size ≤ k) wr w5 := ((Mv.of_below hB4).mono (fun k _ h => .inr h)).trans (hmv5.mono (fun k _ h => .inl h))
      have hS4 := Kd.zfd (v := .slice A5 m.f1.length c5) HQ.out.ho (fun k hk => by have := Kd.zbA hR3 k hk; omega) hB4
      have hBcells : ∀ cs q, W4.heap[B]? ≠ some (.cells cs q (0, 0)) := fun cs q e => by rw [hM4] at e; cases e
      have hS5 : Kd.S k51 51 w5 w1.heap.size (fun k => True ∧ some k ≠ (Value.slice A5 m.f1.length c5).ownBlock) u4 out := Kd.zdE (Kd.zgk (Kd.zeS hS4) (fun k hk hl => hmv5.block k hl (fun e => by
       obtain ⟨_, _, _, q, _, cs, hc⟩ := hk
       rw [e] at hc
       exact hBcells cs q hc))) (fun k hk => hk.1)
      have hR4 := Kd.zaY hR3 hB34
      have hR5 : Kd.R k48 48 w5 w1.heap.size (fun _ => True) (.slice A5 m.f1.length c5) m.f1 := Kd.zbm (Kd.zaz (Kd.zbM (Kd.za0 hR4) (fun k hk hl => hmv5.block k hl (fun e => by
       obtain ⟨_, _, _, q, _, cs, hc⟩ := hk
       rw [e] at hc
       exact hBcells cs q hc))) (fun _ _ => trivial)) (by have := HQ.out.mv.size; omega)
      have y5_0 := zah hbox5 0
      have y5_1 := zah hbox5 1
      have y5_2 := zah hbox5 2
      simp only [List.getElem?_toArray, List.getElem?_cons_zero, List.getElem?_cons_succ] at y5_0 y5_1 y5_2
      obtain ⟨A4, c4, hu4⟩ := Kd.zgn HQ.out.ho
      subst hu4
      have HH := zaa.mk (And.intro hS5 (And.intro hR5 (And.intro hput hnm)))
      have HN := zaa.mk (And.intro hM5 (And.intro (HQ.out.mv.trans (hmvA.mono (fun k _ h => h.imp id (fun h => by have := HQ.out.mv.size; omega)))) (show w1.heap.size ≤ w5.heap.size from Nat.le_trans HQ.out.mv.size hmvA.size)))
      clear hfi hn hput hnm hB34 hM4 hbox4 hup hw5 hne hbox5 hM5 hB4 hmv5 hmvA hS4 hBcells hS5 hR4 hR5 hM3 hR3 hszb hB3 hB2 hbox3 hbox2 hR2 hb2 z3_1 z3_2 HW3 HR3 HBO3
      subst hW4
      subst hw3
      go_wp2_with ((with_reducible refine zcx (b := .append) (xs := #[.tmp 53, .tmp 55]) rfl ?_); at_builtin; refine Kd.zgz k51 (w0 := w5) w1.heap.size rfl (.tmp 53) (.tmp 55) 41 51 (.agg #[(.string ⟨#[]⟩), (.slice none 0 0), (.string ⟨#[]⟩)]) 56 rfl Tryd.underlying41 zhg rfl d9 o9 (.slice A4 out.length c4) out m [.string m.f0, .slice A5 m.f1.length c5, .string m.f2] (fun _ => True) (fun k_ => some k_ = (Value.slice A5 m.f1.length c5).ownBlock) rfl rfl ?aP ?aQ (fun _ _ => trivial) HH.out.1 (Below.refl _ _ |>.mono HN.out.2.2) HN.out.2.2 ?aL ?_; (case aP => exact zf7 _ _ _ m (Kd.zaz (Kd.ze6 rfl HH.out.2.1) (fun _ h_ => h_))); (case aQ => exact fun k_ hk_ => ⟨trivial, fun e_ => by obtain ⟨cs1, hc1⟩ := Kd.zee HH.out.1 k_ e_.symm; obtain ⟨cs2, hc2⟩ := Kd.zdh HH.out.2.1 k_ hk_.symm; rw [hc1] at hc2; cases hc2⟩); (case aL => have := HF.out.2; omega); intro v6 w6 hS6 hB6 hg6 _; have HS6 := zaa.mk hS6; have HB6 := zaa.mk (And.intro hB6 hg6); clear hS6 hB6 hg6)
      have hM6 := (HB6.out.2.block B (zam HN.out.1) (fun e => by
       obtain ⟨cs, hcs⟩ := Kd.zee HH.out.1 B e.symm
       rw [HN.out.1] at hcs
       cases hcs)).trans HN.out.1
      have NEW := zaa.mk (show MS w1 B ((ms.take (j + 1)).foldl putS acc) v6 w6 from by
       rw [HF.out.1, HH.out.2.2.1]
       refine ⟨?_, HN.out.2.1.trans ((Mv.of_below HB6.out.1).mono (fun k _ h => .inr h)), HS6.out⟩
       rw [HH.out.2.2.2]
       exact hM6)
      clear hM6 HB6 HS6 HH HN
      go_roundw
      case rel => exact ⟨j + 1, by omega, by go_num, NEW⟩
      case measure => simp [intOf]; omega
     | some q =>
      rw [hn] at hfi
      have hlk := zeN hM3 hfi
      obtain ⟨_, hq, _⟩ := zd9 _ _ 0 q hn
      rw [List.length_map, Nat.zero_add] at hq
      have hput : putS out m = out.set q m := by unfold putS; rw [hn]
      have hnm := zd2 out m
      rw [hn, hput] at hnm
      simp only at hnm
      rw [hw3] at hlk z3_0
      obtain ⟨W4, hW4⟩ : ∃ W4, W4 = w3.alloc (.cells #[.int .i64 (q : Int)] 109) := ⟨_, rfl⟩
      have hB34 : Below w3.heap.size w3 W4 := by rw [hW4]; exact (Below.refl _ _).alloc (Nat.le_refl _) _
      have hB4 : Below wr.heap.size wr W4 := hB3.trans (hB34.mono hB3.size)
      have hbox4 := (hB34.block _ (zam hbox3)).trans hbox3
      rw [hW4, hw3] at hbox4
      have y4_0 := zah hbox4 0
      have y4_1 := zah hbox4 1
      have y4_2 := zah hbox4 2
      simp only [List.getElem?_toArray, List.getElem?_cons_zero, List.getElem?_cons_succ] at y4_0 y4_1 y4_2
      obtain ⟨gq, cap, hu4, hgb, hgl, _⟩ := Kd.zhH HQ.out.ho o9
      subst hu4
      have hSE := Kd.zfd (v := .slice A5 m.f1.length c5) HQ.out.ho (fun k hk => by have := Kd.zbA hR3 k hk; omega) hB4
      obtain ⟨oki, cq, hcl, _, _, _, _, hH⟩ := Kd.zhR hSE z51 (q : Int) o9 o9
      have hH2 := Kd.zhT (ok := fun _ => True) (okg := fun k => some k = (Value.slice A5 m.f1.length c5).ownBlock) hH (fun _ _ => trivial)
      have hR4 := Kd.zbm (base' := w1.heap.size) (Kd.zaY hR3 hB34) (by have := HQ.out.mv.size; omega)
      have HH := zaa.mk (And.intro hH2 (And.intro hcl (And.intro hR4 hput)))
      have HNM := zaa.mk hnm
      have HB4 := zaa.mk (And.intro hB4 hW4)
      have HQL := zaa.mk hq
      have q0 : (0 : Int) ≤ (q : Int) := by omega
      have q1 : (q : Int) < (out.length : Int) := by omega
      have hM4 := (hB34.block _ (zam hM3)).trans hM3
      have HM4 := zaa.mk hM4
      clear hfi hn hq hput hnm hB34 hB4 hbox4 hSE hcl hH hH2 hR4 hM4 hgb hgl hM3 hR3 hszb hB3 hB2 hbox3 hbox2 hR2 hb2 z3_1 z3_2
      have HBE := zaa.mk (HQ.out.bl HB1.out HBB.out |>.trans (HB4.out.1.mono (HQ.out.bl HB1.out HBB.out).size))
      have HB14 := zaa.mk (show Below w1.heap.size wr W4 from HB4.out.1.mono HQ.out.mv.size)
      clear HW3 HR3
      subst hW4
      subst hw3
      go_wp2_with ((with_reducible refine zfE (t := 51) (p := 46) rfl ?_); refine Kd.zg7 k51 (w0 := wr) w1.heap.size rfl rfl 51 (.tmp 46) (.tmp 45) rfl 51 (q : Int) 0 out m (.agg #[.string m.f0, .slice A5 m.f1.length c5, .string m.f2]) [.string m.f0, .slice A5 m.f1.length c5, .string m.f2] cq (fun _ => True) _ (fun k => some k = (Value.slice A5 m.f1.length c5).ownBlock) rfl (by simp; rfl) rfl rfl k9 (by simp [Value.oneCell']) HH.out.1 q0 q1 (Nat.le_refl 3) ?hM (fun k hk => .inr hk) HB14.out ?_; (case hM => rw [List.take_zero, List.nil_append, List.drop_eq_nil_iff.2 (by rw [HH.out.2.1]; exact Nat.le_refl 3), List.append_nil]; exact zf7 _ _ _ m (Kd.zaz (Kd.ze6 rfl HH.out.2.2.1) (fun _ h_ => h_))); intro w5 hS5 hB5 hg5; have HS5 := zaa.mk hS5; have HB5 := zaa.mk (And.intro hB5 hg5); clear hS5 hB5 hg5)
      have hM5 := (HB5.out.2.block B (zam HM4.out) (fun e => by
       injection e with e
       have h1 := Kd.zee HS5.out gq (by simp [Value.ownBlock])
       obtain ⟨cs, hcs⟩ := Kd.zee HQ.out.ho gq (by simp [Value.ownBlock])
       have h2 := HQ.out.bM
       rw [e, hcs] at h2
       cases h2)).trans HM4.out
      have NEW := zaa.mk (show MS w1 B ((ms.take (j + 1)).foldl putS acc) (.slice (some ⟨gq, 0, none⟩) out.length cap) w5 from by
       rw [HF.out.1, HH.out.2.2.2]
       refine ⟨?_, HQ.out.mv.trans ((Mv.of_below HB5.out.1).mono (fun k _ h => .inr h)), HS5.out⟩
       rw [HNM.out]
       exact hM5)
      clear hM5 HB5 HS5 HH HNM HM4
      go_roundw
      case rel => exact ⟨j + 1, by omega, by go_num, NEW⟩
      case measure => simp [intOf]; omega
    ·
     obtain rfl : j = ms.length := by omega
     have NEW := zaa.mk (show MS w1 B (((L.take (i + 1)).flatMap fun p => (clsAt t p).f3).foldl putS []) u4 wr from by
      rw [HSN.out, List.foldl_append, ← HACC.out]
      have := HQ.out
      rw [List.take_length] at this
      exact this)
     clear HQ hj hlj HSN HACC HTOT HPS HC3 HMW HP
     go_wp2_with fail
     go_roundw
     case rel => exact ⟨i + 1, by omega, by go_num, NEW⟩
     case measure => simp [intOf]; omega
  ·
   obtain rfl : i = L.length := by omega
   have HM2 := HM.out
   rw [List.take_length] at HM2
   have HM3 := zaa.mk HM2
   clear HM HM2 hlt2 hi
   go_wp2_with fail
   go_ret
   exact ⟨_, rfl, Kd.zfW HM3.out.ho HB1.out.size, HM3.out.bl HB1.out HBB.out⟩
end Go.Proofs.YtfhgmebhdchegaaDoorTab
end

section
namespace Go.Proofs.YtfhgmebhdchegaaDoorTab
open Go.RowKit Go.Proofs.YtfhgmebhdchegaaDoor.PAll Go.Proofs.YtfhgmebhdchegaaDoorW.zai Go.Proofs.YtfhgmebhdchegaaDoorW.zas Go.Proofs.YtfhgmebhdchegaaDoorRF Go.Proofs.YtfhgmebhdchegaaDoorRG
attribute [local go_sem] Oper.semAt_some
def idxM (s : ByteArray) : List (S84) → Nat → Int
 | [], _ => -1
 | x :: r, i => if x.f0.toList = s.toList then (i : Int) else idxM s r (i + 1)
theorem zg9 (s : ByteArray) (l : List (S84)) (i : Nat) (h : i < l.length) : idxM s (l.drop i) i = if (zaV l (i : Int)).f0.toList = s.toList then (i : Int) else idxM s (l.drop (i + 1)) (i + 1) := by
 rw [List.drop_eq_getElem_cons h]
 unfold zaV
 rw [Int.toNat_natCast, List.getD_eq_getElem?_getD, List.getElem?_eq_getElem h]; rfl
theorem zfU (s : ByteArray) : ∀ (l : List (S84)) (i : Nat), idxM s l i = -1 ∨ ((i : Int) ≤ idxM s l i ∧ idxM s l i < i + l.length)
 | [], i => .inl rfl
 | x :: r, i => by
  unfold idxM
  by_cases h : x.f0.toList = s.toList
  ·
   rw [if_pos h]; right; simp; omega
  ·
   rw [if_neg h]
   rcases zfU s r (i + 1) with q | ⟨q1, q2⟩
   ·
    exact .inl q
   ·
    right; simp; omega
theorem isM (nm : ByteArray) (p : Nat) (x0 : ByteArray) (x1 : Int) (w : World) (hp : w.heap[p]? = some (.cells #[.string nm] 9 (0, 0))) : Calls Tryd.prog 82 #[.agg #[.string x0, .int .i64 x1], .pointer (some ⟨p, 0, none⟩)] w fun e w' => e = .returned (.bool (x0.toList == nm.toList)) ∧ Below w.heap.size w w' := by
 have hu := Tryd.underlying84
 have hc := zah (zaI hp (.cells #[.string x0, .int .i64 x1] 84 (0, 0))) 0
 simp only [List.getElem?_toArray, List.getElem?_cons_zero] at hc
 have HP := zaa.mk hp
 clear hp
 go_enter Tryd.func82, Tryd.ntmps82
 go_wp2
 go_ret
 exact ⟨rfl, (Below.refl _ _).alloc (Nat.le_refl _) _⟩
theorem zhO (A0 : Option Addr) (c0 : Nat) (l0 : List (S84)) (nm : ByteArray) (p : Nat) (w : World) (hr0 : Kd.C k84 w A0 l0.length l0) (hl : l0.length < 4398046511104) (hp : w.heap[p]? = some (.cells #[.string nm] 9 (0, 0))) :
  Calls Tryd.prog 87 #[.slice A0 l0.length c0, .func (.func 82) #[] #[.pointer (some ⟨p, 0, none⟩)]] w fun e w' => e = .returned (.int .i64 (idxM nm l0 0)) ∧ Below w.heap.size w w' := by
 have HR0 := zaa.mk hr0
 have HP := zaa.mk hp
 have hu := Tryd.underlying84
 obtain ⟨r, hr⟩ : ∃ r, r = idxM nm l0 0 := ⟨_, rfl⟩
 rw [← hr]
 have HH := zaa.mk hr.symm
 clear hr0 hp hr
 go_enter Tryd.func87, Tryd.ntmps87
 go_wp2
 go_loopw [8] (fun v8 wr => ∃ i : Nat, i ≤ l0.length ∧ v8 = .int .i64 i ∧ zaa (idxM nm (l0.drop i) i = r ∧ Below w.heap.size w wr)) (fun v8 _ => l0.length - (intOf v8).toNat)
 case atStart => exact ⟨0, Nat.zero_le _, rfl, ⟨HH.out, Below.refl _ _⟩⟩
 case round =>
  obtain ⟨i, hi, rfl, ⟨hI, hB⟩⟩ := hrel
  have HB := zaa.mk hB
  by_cases hlt : i < l0.length
  ·
   obtain ⟨ad, hA, x0, x1⟩ := zdY (Kd.zay HR0.out hB) (i : Int) o9 o9
   simp only [Int.toNat_natCast] at x0 x1
   have HA := zg9 nm l0 i hlt
   rw [hI] at HA
   obtain ⟨x, hx⟩ : ∃ x, x = zaV l0 (i : Int) := ⟨_, rfl⟩
   rw [← hx] at HA x0 x1
   have HPR := zaa.mk ((hB.block p (zam HP.out)).trans HP.out)
   clear hx hI hB
   subst hA
   by_cases he : x.f0.toList = nm.toList
   ·
    rw [if_pos he] at HA
    have HQ := zaa.mk (show (x.f0.toList == nm.toList) = true by simpa using he)
    subst HA
    clear he
    go_wp2_with fail
    refine (isM nm p x.f0 x.f1 _ HPR.out).mono ?_
    rintro e w2 ⟨rfl, hb⟩
    rw [HQ.out]
    have HB2 := zaa.mk (HB.out.trans (hb.mono HB.out.size))
    clear hb
    go_wp2_with fail
    go_ret
    exact ⟨rfl, HB2.out⟩
   ·
    rw [if_neg he] at HA
    have HQ := zaa.mk (show (x.f0.toList == nm.toList) = false by simpa using he)
    have HA2 := zaa.mk HA.symm
    clear he HA
    go_wp2_with fail
    refine (isM nm p x.f0 x.f1 _ HPR.out).mono ?_
    rintro e w2 ⟨rfl, hb⟩
    rw [HQ.out]
    have HB2 := zaa.mk (HB.out.trans (hb.mono HB.out.size))
    clear hb
    go_wp2_with fail
    go_roundw
    case rel => exact ⟨i + 1, by omega, by go_num, ⟨HA2.out, HB2.out⟩⟩
    case measure => simp [intOf]; omega
  ·
   have hi2 : i = l0.length := by omega
   rw [hi2, List.drop_length] at hI
   have HA2 := zaa.mk hI
   clear hI hi2 hB
   go_wp2_with fail
   go_ret
   exact ⟨by rw [← HA2.out]; rfl, HB.out⟩
def zfc (s : ByteArray) (l : List (S84)) : S84 := if idxM s l 0 < 0 then z84 else zaV l (idxM s l 0)
theorem findM (A0 : Option Addr) (c0 : Nat) (l0 : List (S84)) (nm : ByteArray) (p : Nat) (w : World) (hr0 : Kd.C k84 w A0 l0.length l0) (hl : l0.length < 4398046511104) (hp : w.heap[p]? = some (.cells #[.string nm] 9 (0, 0))) :
  Calls Tryd.prog 81 #[.slice A0 l0.length c0, .func (.func 82) #[] #[.pointer (some ⟨p, 0, none⟩)]] w fun e w' => ∃ y, y = zfc nm l0 ∧  e = .returned (.tuple #[.agg #[.string y.f0, .int .i64 y.f1], .int .i64 (if idxM nm l0 0 < 0 then 0 else idxM nm l0 0), .bool (!decide (idxM nm l0 0 < 0))]) ∧ Below w.heap.size w w' := by
 have hu := Tryd.underlying84
 have HI := zaa.mk (zhO A0 c0 l0 nm p (w.alloc (.cells #[.string ⟨#[]⟩, .int .i64 0] 84 (0, 0))) (Kd.zay hr0 ((Below.refl _ _).alloc (Nat.le_refl _) _)) hl (zaI hp _))
 have HR0 := zaa.mk hr0
 have hrange := zfU nm l0 0
 unfold zfc
 obtain ⟨r, hr⟩ : ∃ r, r = idxM nm l0 0 := ⟨_, rfl⟩
 rw [← hr] at HI hrange ⊢
 clear hr0 hp hr
 by_cases hneg : r < 0
 ·
  rw [if_pos hneg, if_pos hneg]
  have hd : decide (r < 0) = true := by simpa using hneg
  rw [hd]
  clear hrange
  go_enter Tryd.func81, Tryd.ntmps81
  go_wp2_with fail
  refine HI.out.mono ?_
  rintro e w1 ⟨rfl, hb⟩
  have HB1 := zaa.mk (((Below.refl w.heap.size w).alloc (Nat.le_refl _) (.cells #[.string ⟨#[]⟩, .int .i64 0] 84 (0, 0))).trans (hb.mono s9))
  have hg1 := (hb.block w.heap.size s9).trans (at_new w (.cells #[.string ⟨#[]⟩, .int .i64 0] 84 (0, 0)) rfl)
  have HG1 := zaa.mk hg1
  have g0 := zah hg1 0
  have f0 := free_at hg1 0
  have g1 := zah hg1 1
  have f1 := free_at hg1 1
  simp only [List.getElem?_toArray, List.getElem?_cons_zero, List.getElem?_cons_succ] at g0 g1
  clear hb hg1 HI
  go_wp2_with fail
  refine bodyPost_ret (zbK rfl _ _ w.heap.size 84 #[.string ⟨#[]⟩, .int .i64 0] (0, 0) _ rfl ?_ Tryd.underlying84 rfl k9) rfl ⟨z84, rfl, rfl, ?_⟩
  ·
   exact (zaK (zaK HG1.out 0 _ rfl) 1 _ rfl)
  ·
   exact (zau (zau HB1.out (Nat.le_refl _)) (Nat.le_refl _))
 ·
  rw [if_neg hneg, if_neg hneg]
  have hd : decide (r < 0) = false := by simpa using hneg
  rw [hd]
  obtain ⟨m, rfl⟩ : ∃ m : Nat, r = m := ⟨r.toNat, by omega⟩
  have hm : m < l0.length := by omega
  obtain ⟨y, hy⟩ : ∃ y, y = zaV l0 (m : Int) := ⟨_, rfl⟩
  rw [← hy]
  have HY := zaa.mk hy
  clear hrange hy
  go_enter Tryd.func81, Tryd.ntmps81
  go_wp2_with fail
  refine HI.out.mono ?_
  rintro e w1 ⟨rfl, hb⟩
  have HB1 := zaa.mk (((Below.refl w.heap.size w).alloc (Nat.le_refl _) (.cells #[.string ⟨#[]⟩, .int .i64 0] 84 (0, 0))).trans (hb.mono s9))
  have hg1 := (hb.block w.heap.size s9).trans (at_new w (.cells #[.string ⟨#[]⟩, .int .i64 0] 84 (0, 0)) rfl)
  have HG1 := zaa.mk hg1
  have g0 := zah hg1 0
  have f0 := free_at hg1 0
  have g1 := zah hg1 1
  have f1 := free_at hg1 1
  simp only [List.getElem?_toArray, List.getElem?_cons_zero, List.getElem?_cons_succ] at g0 g1
  have HB0 := zaa.mk (show Below w.heap.size w w1 from HB1.out)
  obtain ⟨ad, hA, x0, x1⟩ := zdY HR0.out (m : Int) o9 o9
  replace x0 := (HB1.out.cell (block_lt_of_cell x0)).trans x0
  replace x1 := (HB1.out.cell (block_lt_of_cell x1)).trans x1
  simp only [Int.toNat_natCast] at x0 x1
  rw [← HY.out] at x0 x1
  skip
  clear hb hg1 HI
  subst hA
  go_wp2_with fail
  refine bodyPost_ret (zbK rfl _ _ w.heap.size 84 #[.string y.f0, .int .i64 y.f1] (0, 0) _ rfl ?_ Tryd.underlying84 rfl k9) rfl ⟨y, rfl, rfl, ?_⟩
  ·
   exact (zaK (zaK HG1.out 0 _ rfl) 1 _ rfl)
  ·
   exact (zau (zau HB1.out (Nat.le_refl _)) (Nat.le_refl _))
theorem zeB {P : Program} {ops : Array Oper} {Q : Exit → Act → World → Prop} {α : Type} {i : Nat} {r : List Nat} {o : Oper} {a : Act} (enc : α → Value) {h1c : ∀ x, (enc x).oneCell' = true} (W : World) (hi : ops[i]? = some o) (hw : Region.wanted o (yielded ops a.tmps) = true) (s x : Operand) (t e : TypeId) (z : Value) (bytes : Nat)
  (ho : o.op = .call { callee := .builtin .append, args := #[s, x], argTypes := #[t, t] })
  (ht : P.underlying t = some (.slice e)) (hinfo : (P.info? e).map (fun i => (i.zero, i.size, i.bytes)) = some (some z, 1, bytes)) (hz : z.cells.size = 1) (hb0 : 0 < bytes)
  (base : Nat) (ok : Nat → Prop) (v : Value) (xs : List α) (p : α) (g c : Nat) (hs : a.eval s = v) (hx : a.eval x = .slice (some ⟨g, 0, none⟩) 1 c) (hg : W.cell? ⟨g, 0, none⟩ = some (enc p))
  (HO : (Kd.scalar enc h1c).R e W base ok v xs) (hbase : base ≤ W.heap.size) (hl : (xs.length + 1) * bytes ≤ 140737488355328)
  (h : ∀ v1 w1, (Kd.scalar enc h1c).R e w1 base (fun k => ok k ∨ W.heap.size ≤ k) v1 (xs ++ [p]) → W.grownBy w1 v.ownBlock → wpOps P ops Q r (a.put o.dst v1) w1) :
  wpOps P ops Q (i :: r) a W := by
 obtain ⟨i0, hi0, hzz⟩ := Option.map_eq_some_iff.1 hinfo
 simp only [Prod.mk.injEq] at hzz
 obtain ⟨hz0, hz1, hz2⟩ := hzz
 have hlen : xs.length + 1 ≤ 140737488355328 := Nat.le_trans (Nat.le_mul_of_pos_right _ hb0) hl
 have hown := Kd.zcc HO
 obtain ⟨v1, w1, hrun, r1, r2, _, hat⟩ := run_append_own_at (P := P) W base t o.type e i0 z 1 bytes ht hi0 hz0 hz1 hz2 hz o9 v xs.length (encs enc xs) hown ⟨g, 0, none⟩ 1 c [enc p] rfl
  (fun j u hj => by
   cases j with
   | zero => simp only [List.getElem?_cons_zero, Option.some.injEq] at hj; subst hj; exact hg
   | succ j => simp at hj)
  (fun u hu => by rw [List.mem_singleton.1 hu]; exact h1c p) (by simp only [maxLen]; omega) hl hbase
 refine zgB v1 hi hw (w' := w1) ?_ (h v1 w1 (Kd.zca ?_ (fun k hk => ?_)) r2)
 ·
  simp [execOp, ho, resolve, invoke, builtin, hs, hx, hrun, Result.andThen]
 ·
  rw [List.length_append]
  have he : encs enc (xs ++ [p]) = encs enc xs ++ [enc p] := by simp [encs]
  rw [he]; exact r1
 ·
  rcases hat with e1 | e1
  ·
   exact .inl (HO.1 k (by rw [← e1]; exact hk))
  ·
   rw [e1] at hk
   injection hk with hk
   right; omega
def supL (t : List (S43)) (nm : ByteArray) : List ByteArray := (lineL t nm).map fun p => (clsAt t p).f0
theorem zcy (A0 : Option Addr) (c0 : Nat) (t : List (S43)) (nm : ByteArray) (w : World) (hr0 : Kd.C k43 w A0 t.length t) (hlt : t.length < 4398046511104) :
  Calls Tryd.prog 34 #[.slice A0 t.length c0, .string nm] w fun e w' => ∃ v, e = .returned v ∧ Kd.string.R 9 w' w.heap.size (fun _ => True) v (supL t nm) ∧ Below w.heap.size w w' := by
 refine (callsIn_wide (n := 5)).1 ?_
 refine callsIn_of_wp_marks Tryd.func34 rfl trivial ?_ rfl
 simp only [Tryd.ntmps34, List.size_toArray, List.length_cons, List.length_nil, Nat.reduceAdd, Nat.reduceSub, Array.replicate_succ, Array.replicate_zero, List.push_toArray, List.append_toArray, List.nil_append, List.cons_append]
 gi_wp2_with (refine ⟨trivial, ?_⟩; gi_at_call 56; refine ((callsIn_wide (n := 4)).2 (zdb _ _ _ _ _)).mono ?_; rintro e w' ⟨rfl, rfl⟩)
 obtain ⟨W1, hW1⟩ : ∃ W1, W1 = (((w.alloc (Obj.cells #[Value.slice none 0 0] 56)).alloc (Obj.cells #[Value.slice A0 t.length c0] 25)).alloc (Obj.cells #[Value.string nm] 9)) := ⟨_, rfl⟩
 have b0 : W1.heap[w.heap.size]? = some (.cells #[.slice none 0 0] 56 (0, 0)) := by rw [hW1]; exact zaI (zaI (at_new w _ rfl) _) _
 have b1 : W1.heap[w.heap.size + 1]? = some (.cells #[Value.slice A0 t.length c0] 25 (0, 0)) := by rw [hW1]; exact zaI (at_new _ _ s9) _
 have b2 : W1.heap[w.heap.size + 1 + 1]? = some (.cells #[.string nm] 9 (0, 0)) := by rw [hW1]; exact at_new _ _ s9
 have hsz : W1.heap.size = w.heap.size + 3 := by rw [hW1]; simp
 have hbl : Below w.heap.size w W1 := by rw [hW1]; exact (((Below.refl _ _).alloc (Nat.le_refl _) _).alloc s9 _).alloc (by simp; omega) _
 rw [← hW1]
 have hCb : ∀ w', Below w.heap.size w w' → Kd.C k43 w' A0 t.length t := fun w' h => Kd.zay hr0 h
 refine zd7 (n := 5) rfl o9 75 #[.pointer (some ⟨w.heap.size + 1, 0, none⟩), .pointer (some ⟨w.heap.size + 1 + 1, 0, none⟩)] rfl trivial (zcA Tryd.func75 k9 rfl)
  (fun p : Nat => #[encP A0 p]) (fun _ => rfl) (fun k => k = w.heap.size + 1 ∨ k = w.heap.size + 1 + 1) (fun k => k < w.heap.size) (fun k hk => by rcases hk with rfl | rfl <;> omega) (fun k h => by omega)
  (zdi 4 o9 A0 c0 t nm _ _ w.heap.size W1 (Kd.zay hr0 hbl) hbl.size (fun w' h => Kd.zay hr0 (hbl.trans h)) hlt o9 o9 o9 b1 b2)
  (OutI (fun p => Value.string (clsAt t p).f0) (fun _ => rfl) 56 9 w.heap.size w w.heap.size) (fun _ _ _ _ => False) (OutI.stable _ _ _ _ _ _ (Nat.le_refl _) _) (fun _ _ _ _ _ _ h _ _ _ => h.elim) ?_
  (fun x => { tmps := #[.slice A0 t.length c0, .string nm, undef, undef, .pointer (some ⟨w.heap.size, 0, none⟩), encP A0 x, .slice A0 t.length c0, .string nm, .func (.func 75) #[] #[.pointer (some ⟨w.heap.size + 1, 0, none⟩), .pointer (some ⟨w.heap.size + 1 + 1, 0, none⟩)],
   encP A0 x, undef, undef, undef, undef, undef, undef, undef, undef], defers := [] }) ?assign ?body ?done (fun _ _ _ _ _ _ _ _ h _ => h.elim)
 ·
  intro O hO W hW
  have hno : ¬ O w.heap.size := fun e => by rcases hO _ e with (h | h) | h <;> omega
  exact ⟨⟨_, ⟨hW.at b0 (fun h => h), hno⟩, Kd.R_nil _ _ _ _ _⟩, hbl.trans (hW.below hbl.size (fun _ h => h.elim)), fun k hk => by rcases hO k hk with (h | h) | h <;> omega⟩
 case assign =>
  intro l x W K hK
  gi_wp2
  exact hK
 case body =>
  intro l pre x O W hI hpre hOl hOlp hrec hOO hsz2
  have hxl : x < t.length := zcd t _ _ _ x (hpre.subset s9)
  obtain ⟨⟨v, hm, hr⟩, hb, hlo⟩ := hI
  obtain ⟨ad, A2, c2, A3, c3, hA0, x0, -, -, -, -, -, -, -⟩ := zb0 (hCb _ hb) (x : Int) o9 o9
  subst hA0
  simp only [Int.toNat_natCast] at x0
  obtain ⟨A, c, hv⟩ := Kd.zaR hr
  subst hv
  have hc := zah hm.1 0
  have hf := free_at hm.1 0
  simp only [List.getElem?_toArray, List.getElem?_cons_zero] at hc
  have HM := zaa.mk hm
  have HR := zaa.mk hr
  have HL := zaa.mk (show pre.length < t.length + 1 by have := zci t nm; have := hpre.length_le; simp at this; omega)
  clear hm hr
  simp only [encP, Option.map_some]
  gi_wp2
  refine zcV (N := 18) 6 Grows k9 k9 k9 (fun _ _ h => h) rfl Grows.refl Grows.trans ?_
  rw [show List.range 6 = [0, 1, 2, 3, 4, 5] from rfl]
  refine zbl (.slice A pre.length c) Grows.refl rfl (fun _ _ _ _ => zax rfl) ?_ ?_
  ·
   intro a w' hr hs
   have h4 := hs.out 4 k9
   have hc' := zah (hr.at (A := W.drew) HM.out.1) 0
   simp only [List.getElem?_toArray, List.getElem?_cons_zero] at hc'
   go_simp
  refine zbl (.pointer (some (ad.add (x * 4)))) Grows.refl rfl (fun _ _ _ _ => zax rfl) ?_ ?_
  ·
   intro a w' hr hs
   have h5 := hs.out 5 k9
   go_simp
  refine zbl (.pointer (some (ad.add (x * 4)))) Grows.refl rfl (fun _ _ _ _ => zax rfl) ?_ ?_
  ·
   intro a w' hr hs
   have h5 := hs.get 0 rfl k9 rfl
   simp only at h5
   go_simp
  refine zbl (.pointer (some (ad.add (x * 4)))) Grows.refl rfl (fun _ _ _ _ => zax rfl) ?_ ?_
  ·
   intro a w' hr hs
   have h5 := hs.get 0 rfl k9 rfl
   simp only at h5
   go_simp
  refine zbl (.string (clsAt t x).f0) Grows.refl rfl (fun _ _ _ _ => zax rfl) ?_ ?_
  ·
   intro a w' hr hs
   have h5 := hs.get 0 rfl k9 rfl
   simp only at h5
   have x0' : w'.cell? (ad.add (x * 4)) = some (.string (zbF t (x : Int)).f0) := (hr.cell (w := W.drew) (block_lt_of_cell x0)).trans x0
   unfold clsAt
   go_simp
  refine zgP (fun v W' => ∃ b, v = .slice (some ⟨b, 0, none⟩) 1 1 ∧ W'.heap[b]? = some (.cells #[.string (clsAt t x).f0] 9 (0, 0)) ∧ W.heap.size ≤ b) (fun v w w' hg h => by obtain ⟨b, h1, h2, h3⟩ := h; exact ⟨b, h1, hg.at h2, h3⟩) rfl (fun _ _ _ _ => zax rfl) ?_ ?_
  ·
   intro a w' hr hs
   have h5 := hs.get 0 rfl k9 rfl
   simp only at h5
   refine ⟨.slice (some ⟨w'.heap.size, 0, none⟩) 1 1, w'.alloc (.cells #[.string (clsAt t x).f0] 9), ?_, Grows.alloc _ _, _, rfl, at_new _ _ rfl, hr.size⟩
   go_simp
  intro vs w5 hr hE
  rw [show List.range 6 = [0, 1, 2, 3, 4, 5] from rfl]
  simp only [List.mem_cons, List.not_mem_nil, or_false, forall_eq_or_imp, forall_eq] at hE
  obtain ⟨⟨bx, g5, hbx, hbx2⟩, g4, g3, g2, g1, g0⟩ := hE
  simp only [putL, zaM, List.getElem?_toArray, List.getElem?_cons_succ, List.getElem?_cons_zero, Option.bind_some, Act.put, List.setIfInBounds_toArray, List.set_cons_succ, List.set_cons_zero, g5, g4, g3, g2, g1, g0]
  clear g0 g1 g2 g3 g4 g5
  have hrd : Below W.heap.size W w5 := (Below.refl W.heap.size W).drew.trans hr
  have hmv4 : Mv (fun _ => False) W w5 := Mv.zbN hrd _
  have hrW : (Kd.scalar (fun p => Value.string (clsAt t p).f0) (fun _ => rfl)).R 9 w5 w.heap.size (fun k => ¬ O k) (.slice A pre.length c) pre := Kd.zaY HR.out hrd
  have hgc : w5.cell? ⟨bx, 0, none⟩ = some (.string (clsAt t x).f0) := (zah hbx 0).trans rfl
  refine zeB (i := 6) (r := [7]) (fun p => Value.string (clsAt t p).f0) (h1c := fun _ => rfl) w5 rfl (zax rfl) _ _ 56 9 (.string ⟨#[]⟩) 16 rfl Tryd.underlying56 infoS rfl d9 w.heap.size (fun k => ¬ O k) (.slice A pre.length c) pre x bx 1 rfl rfl hgc hrW (by have := hb.size; have := hrd.size; omega) (by have := HL.out; omega) ?_
  intro v1 w1 hR1 hg1
  simp only [Act.put, List.setIfInBounds_toArray, List.set_cons_succ, List.set_cons_zero]
  have key := OutI.put (T := 56) d9 (Nat.le_refl _) (Nat.le_refl _) hOl HM.out HR.out hb hlo hmv4 (Kd.zaz hR1 (fun k h => h)) hg1
  have hm1 := (hg1.block w.heap.size (zam (hmv4.at HM.out.1 (fun h => h))) (Kd.R_ne HR.out HM.out.1 d9)).trans (hmv4.at HM.out.1 (fun h => h))
  have hc := zah hm1 0
  have hf := free_at hm1 0
  simp only [List.getElem?_toArray, List.getElem?_cons_zero] at hc
  obtain ⟨A1, c1, hv1⟩ := Kd.zaR hR1
  rw [List.length_append, List.length_singleton] at hv1
  subst hv1
  refine zbY (i := 7) (r := []) (w' := w1.setCell ⟨w.heap.size, 0, none⟩ (.slice A1 (pre.length + 1) c1)) rfl (zax rfl) q9 (zbd ?_)
  have KEY := zaa.mk key
  clear key hm1 hR1 hg1 hmv4 hb hlo hrd hrW hgc hr hbx hbx2
  gi_wp2
  exact KEY.out
 case done =>
  intro D xs O W hD hOD hOl hS hI hK
  subst hS
  obtain ⟨⟨v, hm, hr⟩, hb, hlo⟩ := hI
  obtain ⟨A, c, hv⟩ := Kd.zaR hr
  subst hv
  have hc := zah hm.1 0
  have hf := free_at hm.1 0
  simp only [List.getElem?_toArray, List.getElem?_cons_zero] at hc
  have HM := zaa.mk hm
  have HR := zaa.mk hr
  have HB := zaa.mk hb
  clear hm hr hb hlo
  gi_wp2
  have hDB : w.heap.size ≠ D := fun e => by have h1 := HM.out.1; rw [e, hK] at h1; cases h1
  have hsetD : (W.setCell ⟨w.heap.size, 0, none⟩ (.slice A (lineL t nm).length c)).heap[D]? = some (.deferred (some [])) := at_set hK (by simpa using hDB.symm) _
  refine ⟨by simp, .inl ⟨_, _, rfl, run_takeDeferred hsetD, ?_⟩⟩
  refine ⟨_, zb1 rfl _ _ w.heap.size 56 (.slice A (lineL t nm).length c) _ rfl (zcm (by simpa using zbo HM.out.1 0 (.slice A (lineL t nm).length c)) hDB _) Tryd.underlying56, ?_⟩
  have hfin := ((Mv.refl (fun k => w.heap.size ≤ k) W).setCell (p := ⟨w.heap.size, 0, none⟩) (.inl (Nat.le_refl _)) (.slice A (lineL t nm).length c)).putObj (r := D) (.inl o9) (.deferred none)
  have hown := Kd.zcc HR.out
  have he : encs (fun p => Value.string (clsAt t p).f0) (lineL t nm) = encs Value.string (supL t nm) := by simp [encs, supL]
  have hle : (lineL t nm).length = (supL t nm).length := by simp [supL]
  have hR2 : Kd.string.R 9 W w.heap.size (fun k => some k = (Value.slice A (lineL t nm).length c).ownBlock) (.slice A (lineL t nm).length c) (supL t nm) := Kd.zca (by rw [he, hle] at hown; rw [hle]; exact hown) (fun k hk => hk.symm)
  refine ⟨_, rfl, Kd.zaz (Kd.zbM hR2 (fun k hk hl => ?_)) (fun _ _ => trivial), HB.out.trans (hfin.below HB.out.size (fun _ h => h))⟩
  have hne : k ≠ w.heap.size := fun e => by subst e; exact Kd.R_ne HR.out HM.out.1 d9 hk
  have hneD : D ≠ k := fun e => by
   subst e
   rcases hown.2 with ⟨h0, _⟩ | ⟨g, cap, cur, hv, hbase, hgb, _⟩
   ·
    rw [h0] at hk; simp [Value.ownBlock] at hk
   ·
    rw [hv] at hk
    simp [Value.ownBlock] at hk
    subst hk
    rw [hgb] at hK; cases hK
  exact (World.putObj_heap_other hneD.symm).trans (Below.heap_setCell W ⟨w.heap.size, 0, none⟩ _ k (by simpa using hne))
end Go.Proofs.YtfhgmebhdchegaaDoorTab
end
