/- Parts of the proof of one statement, packed: what the program's functions compute. No conditions. -/
import Derived.RangeFuncCalls
import Derived.RangeFuncLeaves
import Derived.RangeFuncBound
import Derived.WalkKit
import Derived.OwnWalkIn
import Derived.TacticsInMore
import Derived.LoopNIn
import Derived.LoopIn
import Derived.Test.YtinkbljjpafadaaKC0
import Derived.Test.YtinkbljjpafadaaProg
import Derived.KernelRfl
import Derived.Deep.QuietTactic
import Derived.BigQuiet
import Derived.Laws.EntriesVeiled
import Derived.WalkLawsBesides
import Derived.Below
import Derived.Deep.Draws
import Derived.Deep.AppendLies
import Derived.Maps.AppendAt
import Derived.OwnWalk
import Derived.Laws.BytesArg
import Derived.Laws.MakeOwn
import Derived.Laws.OwnMore
import Derived.Deep.OwnRows
import Derived.Tactics
import Derived.Lib.ConvBytes
import Derived.Laws.Slices
import Derived.RowKit3
import Derived.Deep.LoopGhost
import Derived.WideLaws
import Derived.Deep.DeepCutAuto
import Derived.Deep.CutBlock
import Derived.Deep.RegionHeld3
import Derived.Laws.Rows
import Derived.Lib.AppendStr
import Derived.ArgAppend
import Derived.Laws.IdiomCopy
import Derived.OrdersHeld
import Derived.Laws.BitsLemmas
import Derived.RowKit
import Derived.Deep.Slices
import Derived.ChangeArms
import Derived.WideShapes
import Derived.Carry
import Derived.OpenShut
set_option linter.unusedSimpArgs false
set_option linter.unusedVariables false
set_option maxRecDepth 100000
set_option maxHeartbeats 8000000
namespace Go.Proofs
theorem k9 {p : Prop} (h : p := by kernel_rfl) : p := h
theorem o9 {p : Prop} (h : p := by omega) : p := h
theorem d9 {p : Prop} (h : p := by decide) : p := h
theorem s9 {p : Prop} (h : p := by simp) : p := h
theorem q9 {p : Prop} (h : p := by go_simp) : p := h
theorem m9 {p : Prop} (h : p := by (try simp only [List.map_toArray, List.map_cons, List.map_nil]); first | done | rfl | (simp only [List.length_drop, List.length_take]; rfl)) : p := h
end Go.Proofs
section
namespace Go.Proofs.YtinkbljjpafadaaRF
open Go.RowKit Go.Proofs.YtinkbljjpafadaaW.PrintLast Go.Proofs.YtinkbljjpafadaaW.PrintWords
structure Mv (O : Nat → Prop) (W W' : World) : Prop where
 os : W'.os = W.os
 tape : W'.tape = W.tape
 output : W'.output = W.output
 size : W.heap.size ≤ W'.heap.size
 block : ∀ k, k < W.heap.size → ¬ O k → W'.heap[k]? = W.heap[k]?
theorem Mv.refl (O : Nat → Prop) (W : World) : Mv O W W := ⟨rfl, rfl, rfl, Nat.le_refl _, fun _ _ _ => rfl⟩
theorem Mv.trans {O : Nat → Prop} {A B C : World} (h : Mv O A B) (k : Mv O B C) : Mv O A C :=
 ⟨k.os.trans h.os, k.tape.trans h.tape, k.output.trans h.output, Nat.le_trans h.size k.size, fun i hi ho => (k.block i (Nat.lt_of_lt_of_le hi h.size) ho).trans (h.block i hi ho)⟩
theorem Mv.mono {O O' : Nat → Prop} {A B : World} (h : Mv O A B) (hO : ∀ k, k < A.heap.size → O k → O' k) : Mv O' A B :=
 ⟨h.os, h.tape, h.output, h.size, fun k hk ho => h.block k hk (fun e => ho (hO k hk e))⟩
theorem Mv.of_below {n : Nat} {A B : World} (h : Below n A B) : Mv (fun k => n ≤ k) A B :=
 ⟨h.os, h.tape, h.output, h.size, fun k _ ho => h.block k o9⟩
theorem Mv.zb2 {A B : World} (h : Below A.heap.size A B) (O : Nat → Prop) : Mv O A B :=
 ⟨h.os, h.tape, h.output, h.size, fun k hk _ => h.block k hk⟩
theorem Mv.below {O : Nat → Prop} {n : Nat} {A B : World} (h : Mv O A B) (hn : n ≤ A.heap.size) (hO : ∀ k, O k → n ≤ k) : Below n A B :=
 ⟨h.os, h.tape, h.output, h.size, fun k hk => h.block k o9 (fun e => by have := hO k e; omega)⟩
theorem Mv.drew {O : Nat → Prop} {A B : World} (h : Mv O A B) : Mv O A B.drew := ⟨h.os, h.tape, h.output, h.size, h.block⟩
theorem Mv.alloc {O : Nat → Prop} {A B : World} (h : Mv O A B) (o : Obj) : Mv O A (B.alloc o) :=
 ⟨h.os, h.tape, h.output, by have := h.size; simp; omega, fun k hk ho => (Below.heap_alloc B o k (by have := h.size; omega)).trans (h.block k hk ho)⟩
theorem Mv.setCell {O : Nat → Prop} {A B : World} (h : Mv O A B) {p : Addr} (hp : O p.block ∨ A.heap.size ≤ p.block) (u : Value) : Mv O A (B.setCell p u) :=
 ⟨h.os, h.tape, h.output, by have := h.size; simpa [World.setCell] using this, fun k hk ho => (Below.heap_setCell B p u k (fun e => by subst e; rcases hp with hp | hp; exact ho hp; omega)).trans (h.block k hk ho)⟩
theorem Mv.putObj {O : Nat → Prop} {A B : World} (h : Mv O A B) {r : Nat} (hp : O r ∨ A.heap.size ≤ r) (o : Obj) : Mv O A (B.putObj r o) :=
 ⟨h.os, h.tape, h.output, by simpa using h.size, fun k hk ho => (World.putObj_heap_other (fun e => by subst e; rcases hp with hp | hp; exact ho hp; omega)).trans (h.block k hk ho)⟩
theorem Mv.grown {O : Nat → Prop} {A B C : World} {row : Option Nat} (h : Mv O A B) (hg : B.grownBy C row) (hr : ∀ k, row = some k → O k ∨ A.heap.size ≤ k) : Mv O A C :=
 ⟨hg.os.trans h.os, hg.tape.trans h.tape, hg.output.trans h.output, Nat.le_trans h.size hg.size, fun k hk ho => (hg.block k (by have := h.size; omega) (fun e => by rcases hr k e.symm with x | x; exact ho x; omega)).trans (h.block k hk ho)⟩
theorem Mv.at {O : Nat → Prop} {A B : World} (h : Mv O A B) {k : Nat} {o : Obj} (hk : A.heap[k]? = some o) (ho : ¬ O k) : B.heap[k]? = some o :=
 (h.block k (Array.getElem?_eq_some_iff.1 hk).1 ho).trans hk
theorem zai {W : World} {k : Nat} {o : Obj} (h : W.heap[k]? = some o) : k < W.heap.size := (Array.getElem?_eq_some_iff.1 h).1
theorem zal {W : World} {k : Nat} {o : Obj} (h : W.heap[k]? = some o) (o' : Obj) : (W.alloc o').heap[k]? = some o := (Below.heap_alloc W o' k (zai h)).trans h
theorem at_new (W : World) (o : Obj) {n : Nat} (hn : n = W.heap.size) : (W.alloc o).heap[n]? = some o := by subst hn; exact World.alloc_heap_new W o
theorem at_set {W : World} {k : Nat} {o : Obj} (h : W.heap[k]? = some o) {p : Addr} (hp : k ≠ p.block) (u : Value) : (W.setCell p u).heap[k]? = some o := (Below.heap_setCell W p u k hp).trans h
theorem zcP {W : World} {k : Nat} {o : Obj} (h : W.heap[k]? = some o) {r : Nat} (hp : k ≠ r) (o' : Obj) : (W.putObj r o').heap[k]? = some o := (World.putObj_heap_other hp).trans h
theorem zcd {W : World} {k : Nat} {o : Obj} (h : W.heap[k]? = some o) : W.drew.heap[k]? = some o := h
theorem zad {W : World} {b : Nat} {cs : Array Value} {t : TypeId} (h : W.heap[b]? = some (.cells cs t (0, 0))) (i : Nat) : W.cell? ⟨b, i, none⟩ = cs[i]? := by simp [World.cell?, h]
theorem free_at {W : World} {b : Nat} {cs : Array Value} {t : TypeId} (h : W.heap[b]? = some (.cells cs t (0, 0))) (i : Nat) : W.frozen? ⟨b, i, none⟩ = false := by simp [World.frozen?, h]
theorem zcK {W : World} {b : Nat} {cs : Array Value} {t : TypeId} (h : W.heap[b]? = some (.cells cs t (0, 0))) (i : Nat) (v : Value) : (W.setCell ⟨b, i, none⟩ v).heap[b]? = some (.cells (cs.setIfInBounds i v) t (0, 0)) := by
 have hb := zai h
 simp only [World.setCell, Array.getElem?_modify, if_true, h, Option.map_some]
 rfl
def Stable {β : Type} (J : β → (Nat → Prop) → World → Prop) : Prop :=
 ∀ s O O' W W', J s O W → Mv O W W' → (∀ k, O k → O' k) → (∀ k, O' k → O k ∨ W.heap.size ≤ k) → J s O' W'
theorem Stable.and {β : Type} {J K : β → (Nat → Prop) → World → Prop} (h : Stable J) (k : Stable K) : Stable (fun s O W => J s O W ∧ K s O W) :=
 fun s O O' W W' hs hm h1 h2 => ⟨h s O O' W W' hs.1 hm h1 h2, k s O O' W W' hs.2 hm h1 h2⟩
theorem Stable.pure {β : Type} (p : β → Prop) : Stable (fun s (_ : Nat → Prop) (_ : World) => p s) := fun _ _ _ _ _ hs _ _ _ => hs
theorem Stable.ex {β γ : Type} {J : γ → β → (Nat → Prop) → World → Prop} (h : ∀ c, Stable (J c)) : Stable (fun s O W => ∃ c, J c s O W) :=
 fun s O O' W W' ⟨c, hs⟩ hm h1 h2 => ⟨c, h c s O O' W W' hs hm h1 h2⟩
structure Mine (b : Nat) (o : Obj) (O : Nat → Prop) (W : World) : Prop where
 lies : W.heap[b]? = some o
 mine : ¬ O b
theorem Mine.set {b : Nat} {o : Obj} {O : Nat → Prop} {W : World} (h : Mine b o O W) {p : Addr} (hp : b ≠ p.block) (u : Value) : Mine b o O (W.setCell p u) := ⟨at_set h.1 hp u, h.2⟩
theorem Mine.put {b : Nat} {o : Obj} {O : Nat → Prop} {W : World} (h : Mine b o O W) {r : Nat} (hp : b ≠ r) (u : Obj) : Mine b o O (W.putObj r u) := ⟨zcP h.1 hp u, h.2⟩
theorem Mine.one {b : Nat} {v : Value} {T : Nat} {O : Nat → Prop} {W : World} (h : Mine b (.cells #[v] T (0, 0)) O W) (u : Value) : Mine b (.cells #[u] T (0, 0)) O (W.setCell ⟨b, 0, none⟩ u) := ⟨by simpa using zcK h.1 0 u, h.2⟩
theorem Mine.stable {β : Type} (b : β → Nat) (o : β → Obj) : Stable (fun s O W => Mine (b s) (o s) O W) :=
 fun _ _ _ _ _ hs hm _ h2 => ⟨hm.at hs.1 hs.2, fun e => (h2 _ e).elim hs.2 (fun x => by have := zai hs.1; omega)⟩
section
variable {F : Fence} {n : Nat} {P : Program}
theorem zf5 {r : Option Nat} {f : FuncId} {args : Array Value} {w : World} {R : Ending → World → Prop} (h : Calls P f args w R) : CallsIn { Fence.wide with round := r } n P f args w R :=
 (callsIn_wide (n := n)).2 h
def rpost {α : Type} (O : Nat → Prop) (I : List α → (Nat → Prop) → World → Prop) (Ix : Code → List α → (Nat → Prop) → World → Prop) (xs : List α) (W : World) : Exit → Act → World → Prop
 | .normal, _, W' => Mv (fun k => ¬ O k) W W' ∧ I xs O W'
 | .ret, _, W' => Mv (fun k => ¬ O k) W W' ∧ Ix .ret xs O W'
 | .exit id, _, W' => Mv (fun k => ¬ O k) W W' ∧ Ix (.exit id) xs O W'
 | .goto t, _, W' => Mv (fun k => ¬ O k) W W' ∧ Ix (.goto t) xs O W'
 | .panic _, _, _ => False
 | .outgrown, _, _ => False
def Iter {α : Type} (F : Fence) (n : Nat) (P : Program) (gf : Nat) (lb : Array Value) (encs : α → Array Value) (Pre S : List α → Prop) (O₀ Rd : Nat → Prop) (w : World) : Prop :=
 ∀ (l : Nat) (J Jx : List α → (Nat → Prop) → World → Prop) (O : Nat → Prop) (W : World), Stable J → Stable Jx →
  (∀ pre x O W, J pre O W → Pre (pre ++ [x]) → (∀ k, O k → k < W.heap.size) → YieldAt F (n - 1) P l (encs x) W fun e W' =>
   (e = .returned (.bool true) ∧ J (pre ++ [x]) O W' ∧ Mv (fun k => ¬ O k ∧ ¬ Rd k) W W') ∨ (e = .returned (.bool false) ∧ Jx (pre ++ [x]) O W' ∧ Mv (fun k => ¬ O k ∧ ¬ Rd k) W W')) →
  Mv (fun _ => False) w W → (∀ k, O₀ k → O k) → (∀ k, O k → k < W.heap.size) → J [] O W →
  CallsIn F n P gf (#[.func (.yield l) #[] #[]] ++ lb) W fun e W' => (∃ v, e = .returned v) ∧
   ((∃ xs O, S xs ∧ J xs O W' ∧ ∀ k, O k → k < W'.heap.size) ∨ (∃ pre O, Jx pre O W' ∧ ∀ k, O k → k < W'.heap.size))
theorem zfS {α : Type} {g : Operand} {ps : Array Tmp} {assign body : Code} {Q : Exit → Act → World → Prop} {a : Act} {w : World}
  (hro : F.round = none) (h1 : 1 ≤ n) (gf : Nat) (lb : Array Value) (hg : a.eval g = .func (.func gf) #[] lb) (hFg : F.fn gf) (eg : ∀ args w, (callFunc gf args).run P w = .ok (.enter gf args) w)
  (encs : α → Array Value) (hps : ∀ x, (encs x).size = ps.size) {Pre S : List α → Prop} (O₀ Rd : Nat → Prop) (hO₀ : ∀ k, O₀ k → k < w.heap.size) (hRd : ∀ k, Rd k → k < w.heap.size)
  (hiter : Iter F (n - 1) P gf lb encs Pre S O₀ Rd w)
  (I : List α → (Nat → Prop) → World → Prop) (Ix : Code → List α → (Nat → Prop) → World → Prop) (hI : Stable I) (hIx : ∀ c, Stable (Ix c))
  (h0 : ∀ O, (∀ k, O k → O₀ k ∨ w.heap.size ≤ k) → ∀ W, Mv (fun _ => False) w W → I [] O W) (a₁ : α → Act)
  (hassign : ∀ (l : Nat) (x : α) (W : World) (K : Act → World → Prop), K (a₁ x) W →
   assign.wpIn (F.inRound l) (n - 1 - 1) P (Exit.then K (fun _ _ _ => False)) { tmps := (ps.zip (encs x)).foldl (fun t (p, v) => t.setIfInBounds p v) a.tmps, defers := [] } W)
  (hbody : ∀ (l : Nat) (pre : List α) (x : α) (O : Nat → Prop) (W : World), I pre O W → Pre (pre ++ [x]) → (∀ k, O k → k < W.heap.size) → O l → (∃ r, W.heap[l]? = some (.loop r)) → (∀ k, O₀ k → O k) → w.heap.size ≤ W.heap.size →
   body.wpIn (F.inRound l) (n - 1 - 1) P (rpost (fun k => O k ∨ Rd k) (fun s _ W => I s O W) (fun c s _ W => Ix c s O W) (pre ++ [x]) W) (a₁ x) W)
  (hdone : ∀ (D : Nat) (xs : List α) (O : Nat → Prop) (W : World), w.heap.size ≤ D → O D → (∀ k, O k → k < W.heap.size) → S xs → I xs O W → W.heap[D]? = some (.deferred (some [])) → Q .normal { a with defers := { target := .collected D, args := #[] } :: a.defers } W)
  (hstop : ∀ (D : Nat) (c : Code) (pre : List α) (O : Nat → Prop) (W : World), w.heap.size ≤ D → O D → (∀ k, O k → k < W.heap.size) → Ix c pre O W → W.heap[D]? = some (.deferred (some [])) → c.wpIn F n P Q { a with defers := { target := .collected D, args := #[] } :: a.defers } W) :
  (Code.rangeFunc g ps assign body).wpIn F n P Q a w := by
 refine wpIn_rangeFunc ?_
 intro fn hfn
 obtain ⟨rec, hrec⟩ : ∃ rec : LoopState → Option Code → Loop, rec = fun s p => { state := s, pending := p, fn, tmps := a.tmps, params := ps, assign, body, defers := w.heap.size } := ⟨_, rfl⟩
 obtain ⟨W1, hW1⟩ : ∃ W1, W1 = (w.alloc (.deferred (some []))).alloc (.loop (rec .ready none)) := ⟨_, rfl⟩
 have hmv1 : Mv (fun _ => False) w W1 := by rw [hW1]; exact ((Mv.refl _ w).alloc _).alloc _
 have hsz1 : W1.heap.size = w.heap.size + 2 := by rw [hW1]; simp
 have hL1 : W1.heap[w.heap.size + 1]? = some (.loop (rec .ready none)) := by rw [hW1]; exact at_new _ _ s9
 have hK1 : W1.heap[w.heap.size]? = some (.deferred (some [])) := by rw [hW1]; exact zal (at_new _ _ rfl) _
 refine ⟨w.heap.size + 1, [{ target := .collected w.heap.size, args := #[] }], W1, { target := .fn (.func gf) lb, args := #[.func (.yield (w.heap.size + 1)) #[] #[]] }, W1, gf,
  #[.func (.yield (w.heap.size + 1)) #[] #[]] ++ lb, W1, ?_, ?_, ?_, ?_, fun _ => h1, ?_⟩
 ·
  rw [hW1, hrec, hro]; exact run_enterLoop_outer _ _ _ _ _
 ·
  simp only [resolve, hg]
  simp [go_sem, Deferred.ofValue, Act.eval]
 ·
  intro f' hf'; simp [Target.leads] at hf'; subst hf'; exact hFg
 ·
  simp [invoke, go_sem, eg]
 ·
  -- what the parties say to each other: the record and the block for deferred calls are the statement's own
  let B : (Nat → Prop) → Nat → Prop := fun O k => O k ∨ k = w.heap.size ∨ k = w.heap.size + 1
  have hBm : ∀ (O O' : Nat → Prop), (∀ k, O k → O' k) → ∀ k, B O k → B O' k := fun O O' h k hk => hk.imp (h k) id
  let J : List α → (Nat → Prop) → World → Prop := fun pre O W => I pre (B O) W ∧ Mine (w.heap.size + 1) (.loop (rec .ready none)) O W ∧ Mine w.heap.size (.deferred (some [])) O W ∧ (w.heap.size ≤ W.heap.size) ∧ (∀ k, O₀ k → O k)
  let Jx : List α → (Nat → Prop) → World → Prop := fun pre O W => (∃ c, Ix c pre (B O) W ∧ Mine (w.heap.size + 1) (.loop (rec .done (some c))) O W) ∧ Mine w.heap.size (.deferred (some [])) O W
  have hBst : ∀ {γ : Type} {K : γ → (Nat → Prop) → World → Prop}, Stable K → Stable (fun s O W => K s (B O) W) := fun hK s O O' W W' hs hm h1 h2 =>
   hK s (B O) (B O') W W' hs (hm.mono (fun k _ hk => Or.inl hk)) (hBm O O' h1) (fun k hk => by
    rcases hk with hk | hk
    ·
     rcases h2 k hk with x | x
     ·
      exact .inl (.inl x)
     ·
      exact .inr x
    ·
     exact .inl (.inr hk))
  have hJ : Stable J := (hBst hI).and ((Mine.stable (fun _ => _) (fun _ => _)).and ((Mine.stable (fun _ => _) (fun _ => _)).and (fun _ _ _ _ _ hs hm h1 _ => ⟨Nat.le_trans hs.1 hm.size, fun k hk => h1 k (hs.2 k hk)⟩)))
  have hJx : Stable Jx := (Stable.ex fun c => (hBst (hIx c)).and (Mine.stable (fun _ => _) (fun _ => _))).and (Mine.stable (fun _ => _) (fun _ => _))
  have turn : ∀ {pre : List α} {O : Nat → Prop} {W : World} (o : Obj), I pre (B O) W → I pre (B O) (W.putObj (w.heap.size + 1) o) := fun o h =>
   hI _ _ _ _ _ h ((Mv.refl _ _).putObj (.inl (.inr (.inr rfl))) o) (fun _ h => h) (fun _ h => .inl h)
  have turnx : ∀ {c : Code} {pre : List α} {O : Nat → Prop} {W : World} (o : Obj), Ix c pre (B O) W → Ix c pre (B O) (W.putObj (w.heap.size + 1) o) := fun o h =>
   hIx _ _ _ _ _ _ h ((Mv.refl _ _).putObj (.inl (.inr (.inr rfl))) o) (fun _ h => h) (fun _ h => .inl h)
  refine (hiter (w.heap.size + 1) J Jx O₀ W1 hJ hJx ?_ hmv1 (fun _ h => h) (fun k hk => by have := hO₀ k hk; omega)
   ⟨h0 _ (fun k hk => by rcases hk with hk | hk | hk; exact .inl hk; exact .inr o9; exact .inr o9) _ hmv1, ⟨hL1, fun e => by have := hO₀ _ e; omega⟩, ⟨hK1, fun e => by have := hO₀ _ e; omega⟩, hmv1.size, fun _ h => h⟩).mono ?_
  ·
   -- one round
   rintro pre x O W ⟨hi, ⟨hl, hlO⟩, ⟨hk, hkO⟩, hws, hOO⟩ hpre hO
   have hlt : w.heap.size + 1 < W.heap.size := zai hl
   have hy := run_yield (P := P) (args := encs x) hl (by rw [hrec]; exact hps x)
   rw [hrec] at hy
   refine ⟨fn, _, assign, body, hy, roundIn_of_wpIn hfn (hassign _ x W _ ⟨_, run_beginRound hl (by rw [hrec]), ?_⟩)⟩
   have hl2 : (W.putObj (w.heap.size + 1) (.loop { rec .ready none with state := .busy })).heap[w.heap.size + 1]? = some (.loop { rec .ready none with state := .busy }) := World.putObj_heap_same hlt
   have hk2 : (W.putObj (w.heap.size + 1) (.loop { rec .ready none with state := .busy })).heap[w.heap.size]? = some (.deferred (some [])) := (World.putObj_heap_other o9).trans hk
   have hmv2 : Mv (fun k => ¬ O k ∧ ¬ Rd k) W (W.putObj (w.heap.size + 1) (.loop { rec .ready none with state := .busy })) := (Mv.refl _ _).putObj (.inl ⟨hlO, fun e => by have := hRd _ e; omega⟩) _
   refine wpIn_mono (hbody _ pre x (B O) _ (turn _ hi) hpre (fun k hk' => by simp; rcases hk' with h | h | h; exact hO k h; omega; omega) (.inr (.inr rfl)) ⟨_, hl2⟩ (fun k h => .inl (hOO k h)) (by simpa using hws)) ?_
   have fin : ∀ (jump : Option Code) (W3 : World), Mv (fun k => ¬ (B O k ∨ Rd k)) (W.putObj (w.heap.size + 1) (.loop { rec .ready none with state := .busy })) W3 →
     (Instr.endRound (w.heap.size + 1) jump).run P W3 = .ok (.bool jump.isNone) (W3.putObj (w.heap.size + 1) (.loop (rec (if jump.isNone then .ready else .done) jump))) ∧
     (W3.putObj (w.heap.size + 1) (.loop (rec (if jump.isNone then .ready else .done) jump))).heap[w.heap.size + 1]? = some (.loop (rec (if jump.isNone then .ready else .done) jump)) ∧
     (W3.putObj (w.heap.size + 1) (.loop (rec (if jump.isNone then .ready else .done) jump))).heap[w.heap.size]? = some (.deferred (some [])) ∧
     Mv (fun k => ¬ O k ∧ ¬ Rd k) W (W3.putObj (w.heap.size + 1) (.loop (rec (if jump.isNone then .ready else .done) jump))) := fun jump W3 hm3 => by
    have hl3 := hm3.at hl2 (fun h => h (.inl (.inr (.inr rfl))))
    have hk3 := hm3.at hk2 (fun h => h (.inl (.inr (.inl rfl))))
    have := run_endRound (P := P) jump hl3
    refine ⟨?_, World.putObj_heap_same (zai hl3), (World.putObj_heap_other o9).trans hk3, ?_⟩
    ·
     rw [hrec] at this ⊢; exact this
    ·
     refine (hmv2.trans (hm3.mono (fun k _ h => ?_))).putObj (.inl ⟨hlO, fun e => by have := hRd _ e; omega⟩) _
     exact ⟨fun e => h (.inl (.inl e)), fun e => h (.inr e)⟩
   rintro e a3 W3 hp
   cases e with
   | normal =>
    obtain ⟨hm3, hi3⟩ := hp
    obtain ⟨hr, hl4, hk4, hm4⟩ := fin none W3 hm3
    exact ⟨_, _, hr, .inl ⟨rfl, ⟨turn _ hi3, ⟨hl4, hlO⟩, ⟨hk4, hkO⟩, Nat.le_trans hws hm4.size, hOO⟩, hm4⟩⟩
   | ret =>
    obtain ⟨hm3, hi3⟩ := hp
    obtain ⟨hr, hl4, hk4, hm4⟩ := fin (some .ret) W3 hm3
    exact ⟨_, _, hr, .inr ⟨rfl, ⟨⟨.ret, turnx _ hi3, hl4, hlO⟩, hk4, hkO⟩, hm4⟩⟩
   | exit id =>
    obtain ⟨hm3, hi3⟩ := hp
    obtain ⟨hr, hl4, hk4, hm4⟩ := fin (some (.exit id)) W3 hm3
    exact ⟨_, _, hr, .inr ⟨rfl, ⟨⟨.exit id, turnx _ hi3, hl4, hlO⟩, hk4, hkO⟩, hm4⟩⟩
   | goto t =>
    obtain ⟨hm3, hi3⟩ := hp
    obtain ⟨hr, hl4, hk4, hm4⟩ := fin (some (.goto t)) W3 hm3
    exact ⟨_, _, hr, .inr ⟨rfl, ⟨⟨.goto t, turnx _ hi3, hl4, hlO⟩, hk4, hkO⟩, hm4⟩⟩
   | panic ch => exact hp.elim
   | outgrown => exact hp.elim
  ·
   -- behind the iterator
   rintro e W2 ⟨⟨v, rfl⟩, (⟨xs, O, hS, ⟨hi, ⟨hl, hlO⟩, ⟨hk, hkO⟩, _⟩, hO⟩ | ⟨pre, O, ⟨⟨c, hi, hl, hlO⟩, hk, hkO⟩, hO⟩)⟩
   ·
    exact ⟨none, _, by have := run_endLoop (P := P) hl (by rw [hrec]; simp); rw [hrec] at this; exact this,
     hdone _ xs (B O) _ (Nat.le_refl _) (.inr (.inl rfl)) (fun k hk' => by have := zai hl; simp; rcases hk' with h | h | h; exact hO k h; omega; omega) hS (turn _ hi) ((World.putObj_heap_other o9).trans hk)⟩
   ·
    exact ⟨some c, _, by have := run_endLoop (P := P) hl (by rw [hrec]; simp); rw [hrec] at this; exact this,
     hstop _ c pre (B O) _ (Nat.le_refl _) (.inr (.inl rfl)) (fun k hk' => by have := zai hl; simp; rcases hk' with h | h | h; exact hO k h; omega; omega) (turnx _ hi) ((World.putObj_heap_other o9).trans hk)⟩
end
section
variable {P : Program} {ops : Array Oper} {Q : Exit → Act → World → Prop} {S : World → Prop} {ds : List Nat} {r : Option Nat} {n : Nat}
def ziQ (ops : Array Oper) : Bool := ops.all fun o => match o.op with | .defer _ => false | _ => true
theorem zi3 {o : Oper} {a : Act} {next next' : Act → World → Prop} (hn : ∀ a w, next a w → next' a w) {res : Result Next} (h : o.upon P a next Q res) : o.uponIn { Fence.wide with round := r } n P a next' Q res := by
 cases res with
 | ok x w' =>
  cases x <;> simp only [Oper.upon, Oper.uponIn] at h ⊢
  case value => exact hn _ _ h
  case skip => exact hn _ _ h
  case defer => exact hn _ _ h
  case enter f args => exact ⟨fun h => by simp [Fence.wide] at h, zf5 (Calls.mono h (fun e w'' he => by cases e <;> first | exact hn _ _ he | exact he))⟩
  case row row args =>
   refine ⟨fun h => by simp [Fence.wide] at h, fun c cs _ => ?_⟩
   obtain ⟨v, w', hv, hs⟩ := h c cs
   exact ⟨v, w', hn _ _ hv, stepsIn_wide.2 hs⟩
 | halt x w' => cases x <;> simp only [Oper.upon, Oper.uponIn] at h ⊢ <;> exact h
theorem zes (hd : ziQ ops = true) (hQ : ∀ a w, ¬ Q .outgrown a w) : ∀ (l : List Nat) (a : Act) (w : World), wpOps P ops Q l a w → wpOpsIn { Fence.wide with round := r } n P ops Q l a w
 | [], a, w, h => h
 | i :: rest, a, w, h => by
  simp only [wpOps, wpOpsIn] at h ⊢
  cases ho : ops[i]? with
  | none => simp only [ho] at h ⊢; exact zes hd hQ rest a w h
  | some o =>
   simp only [ho] at h ⊢
   have hdo : ∀ c, o.op ≠ .defer c := fun c hc => by
    have h1 := Array.all_eq_true_iff_forall_mem.1 hd o (Array.mem_of_getElem? ho)
    simp [hc] at h1
   by_cases hw : Region.wanted o (yielded ops a.tmps) = true
   ·
    simp only [hw, if_true] at h ⊢
    rcases h with h | ⟨_, a0, w0, hq⟩
    ·
     refine ⟨fun _ _ => trivial, ?_⟩
     rw [Oper.semAt_plain _ _ _ hdo]
     exact zi3 (fun a w => zes hd hQ rest a w) h
    ·
     exact absurd hq (hQ _ _)
   ·
    simp only [hw, Bool.false_eq_true, if_false] at h ⊢
    exact ⟨fun _ _ => trivial, zes hd hQ rest _ w h⟩
end
end Go.Proofs.YtinkbljjpafadaaRF
end

section
namespace Go.Proofs.YtinkbljjpafadaaRG
open Go.RowKit Go.Proofs.YtinkbljjpafadaaW.PrintLast Go.Proofs.YtinkbljjpafadaaW.PrintWords Go.Proofs.YtinkbljjpafadaaRF
section
variable (P : Program) (ops : Array Oper) (Q : Exit → Act → World → Prop) (ρ : World → World → Prop) (a0 : Act) (w0 : World) (m : Nat)
def needs (i : Nat) : List Nat := match ops[i]? with | some o => (o.after.toList.filter (Region.binds .any)).map (·.on) | none => []
def zaU (j : Nat) : Option Tmp := (ops[j]?).bind (·.dst)
def nodupB : List Nat → Bool
 | [] => true
 | x :: r => !r.contains x && nodupB r
def rgOk (N : Nat) : Bool :=
 decide (m ≤ ops.size) && ((List.range m).filterMap (zaU ops)).all (fun t => decide (t < N)) && nodupB ((List.range m).filterMap (zaU ops)) &&
 (List.range ops.size).all (fun i => (needs ops i).all (fun j => decide (j < i))) &&
 (List.range ops.size).all (fun t => decide (t < m) || (List.range t).all (fun j => (needs ops t).contains j))
abbrev Env := List (Nat × (Value → World → Prop))
structure Seen (E : Env) (i : Nat) (a : Act) (w : World) : Prop where
 defers : a.defers = a0.defers
 size : a.tmps.size = a0.tmps.size
 outer : ∀ t, (∀ j, j < m → zaU ops j ≠ some t) → a.tmps[t]?.getD undef = a0.tmps[t]?.getD undef
 known : ∀ p ∈ E, p.1 ∈ needs ops i → ∃ v, (∀ t, zaU ops p.1 = some t → a.tmps[t]?.getD undef = v) ∧ p.2 v w
def Ob (E : Env) (i : Nat) (φ : Value → World → Prop) : Prop :=
 ∀ o, ops[i]? = some o → ∀ a w, ρ w0 w → Seen ops a0 m E i a w →
  if Region.wanted o (yielded ops a.tmps) = true then Oper.wp P o a w (fun a' w' => ∃ v, a' = a.put o.dst v ∧ ρ w w' ∧ φ v w') Q else φ undef w
def putL (vs : Nat → Value) : List Nat → Act → Act
 | [], a => a
 | j :: r, a => putL vs r (a.put (zaU ops j) (vs j))
def Fin (E : Env) : Prop := ∀ (vs : Nat → Value) (w : World), ρ w0 w → (∀ p ∈ E, p.2 (vs p.1) w) → wpOps P ops Q (List.range' m (ops.size - m)) (putL ops vs (List.range m) a0) w
def RG : Env → List Nat → Prop
 | E, [] => Fin P ops Q ρ a0 w0 m E
 | E, i :: r => ∃ φ : Value → World → Prop, (∀ v w w', ρ w w' → φ v w → φ v w') ∧ Ob P ops Q ρ a0 w0 m E i φ ∧ RG ((i, φ) :: E) r
end
section
variable {P : Program} {ops : Array Oper} {Q : Exit → Act → World → Prop} {ρ : World → World → Prop} {a0 : Act} {w0 : World} {m : Nat}
theorem RG.out : ∀ (l : List Nat) (E : Env), RG P ops Q ρ a0 w0 m E l →
  ∃ E' : Env, E'.map (·.1) = l.reverse ∧ (∀ p ∈ E', ∀ v w w', ρ w w' → p.2 v w → p.2 v w') ∧ (∀ p ∈ E', ∃ E1 : Env, (∀ q ∈ E1, q ∈ E' ++ E) ∧ Ob P ops Q ρ a0 w0 m E1 p.1 p.2) ∧ Fin P ops Q ρ a0 w0 m (E' ++ E)
 | [], E, h => ⟨[], rfl, fun _ h => by simp at h, fun _ h => by simp at h, h⟩
 | i :: r, E, ⟨φ, hs, ho, h⟩ => by
  obtain ⟨E', h1, h2, h3, h4⟩ := RG.out r ((i, φ) :: E) h
  have he : E' ++ (i, φ) :: E = (E' ++ [(i, φ)]) ++ E := by simp
  rw [he] at h4
  refine ⟨E' ++ [(i, φ)], by simp [h1], ?_, ?_, h4⟩
  ·
   intro p hp
   rcases List.mem_append.1 hp with hp | hp
   ·
    exact h2 p hp
   ·
    rw [List.mem_singleton.1 hp]; exact hs
  ·
   intro p hp
   rcases List.mem_append.1 hp with hp | hp
   ·
    obtain ⟨E1, hE, ho1⟩ := h3 p hp
    exact ⟨E1, fun q hq => by rw [← he]; exact hE q hq, ho1⟩
   ·
    rw [List.mem_singleton.1 hp]
    exact ⟨E, fun q hq => List.mem_append.2 (.inr hq), ho⟩
theorem zgg {N : Nat} (h : rgOk ops m N = true) : m ≤ ops.size ∧ (∀ j, j < m → ∀ t, zaU ops j = some t → t < N) ∧ (∀ j k, j < m → k < m → ∀ t, zaU ops j = some t → zaU ops k = some t → j = k) ∧
  (∀ i j, j ∈ needs ops i → j < i) ∧ (∀ t, m ≤ t → t < ops.size → ∀ j, j < t → j ∈ needs ops t) := by
 simp only [rgOk, Bool.and_eq_true, decide_eq_true_eq] at h
 obtain ⟨⟨⟨⟨h1, h2⟩, h3⟩, h4⟩, h5⟩ := h
 refine ⟨h1, ?_, ?_, ?_, ?_⟩
 ·
  intro j hj t ht
  have := List.all_eq_true.1 h2 t (List.mem_filterMap.2 ⟨j, List.mem_range.2 hj, ht⟩)
  simpa using this
 ·
  have key : ∀ (l : List Nat), l.Nodup → nodupB (l.filterMap (zaU ops)) = true → ∀ j k, j ∈ l → k ∈ l → ∀ t, zaU ops j = some t → zaU ops k = some t → j = k := by
   intro l
   induction l with
   | nil => intro _ _ j k hj; simp at hj
   | cons x r ih =>
    intro hn hb j k hj hk t htj htk
    have hn' := List.nodup_cons.1 hn
    cases hx : zaU ops x with
    | none =>
     simp only [List.filterMap_cons, hx] at hb
     rcases List.mem_cons.1 hj with rfl | hj
     ·
      rw [hx] at htj; cases htj
     rcases List.mem_cons.1 hk with rfl | hk
     ·
      rw [hx] at htk; cases htk
     exact ih hn'.2 hb j k hj hk t htj htk
    | some s =>
     simp only [List.filterMap_cons, hx, nodupB, Bool.and_eq_true, Bool.not_eq_true', List.contains_eq_mem, decide_eq_false_iff_not] at hb
     have hno : ∀ y, y ∈ r → zaU ops y ≠ some s := fun y hy hs => hb.1 (List.mem_filterMap.2 ⟨y, hy, hs⟩)
     rcases List.mem_cons.1 hj with hj0 | hj1
     ·
      rcases List.mem_cons.1 hk with hk0 | hk1
      ·
       rw [hj0, hk0]
      ·
       rw [hj0, hx] at htj; cases htj; exact absurd htk (hno k hk1)
     ·
      rcases List.mem_cons.1 hk with hk0 | hk1
      ·
       rw [hk0, hx] at htk; cases htk; exact absurd htj (hno j hj1)
      ·
       exact ih hn'.2 hb.2 j k hj1 hk1 t htj htk
  intro j k hj hk
  exact key (List.range m) List.nodup_range h3 j k (List.mem_range.2 hj) (List.mem_range.2 hk)
 ·
  intro i j hj
  by_cases hi : i < ops.size
  ·
   have h6 := List.all_eq_true.1 h4 i (List.mem_range.2 hi)
   simpa using List.all_eq_true.1 h6 j hj
  ·
   have : ops[i]? = none := Array.getElem?_eq_none o9
   simp [needs, this] at hj
 ·
  intro t hm ht j hj
  have h6 := List.all_eq_true.1 h5 t (List.mem_range.2 ht)
  simp only [Bool.or_eq_true, decide_eq_true_eq] at h6
  rcases h6 with h6 | h6
  ·
   omega
  ·
   simpa using List.all_eq_true.1 h6 j (List.mem_range.2 hj)
theorem zcf {listed : Array Bool} {i : Nat} (h : i ∈ Region.ready .any ops listed) : i < ops.size ∧ listed.getD i true = false ∧ ∀ j ∈ needs ops i, listed.getD j false = true := by
 obtain ⟨h1, o, ho, hall⟩ := mem_ready.1 h
 refine ⟨(Array.getElem?_eq_some_iff.1 ho).1, h1, ?_⟩
 intro j hj
 simp only [needs, ho] at hj
 obtain ⟨e, he, rfl⟩ := List.mem_map.1 hj
 obtain ⟨he1, he2⟩ := List.mem_filter.1 he
 exact hall e (by simpa using he1) he2
theorem zc3 {listed : Array Bool} {i : Nat} (hi : i < ops.size) (h1 : listed.getD i true = false) (h : ∀ j ∈ needs ops i, listed.getD j false = true) : i ∈ Region.ready .any ops listed := by
 refine mem_ready.2 ⟨h1, ops[i], by simp [hi], fun e he hb => h _ ?_⟩
 simp only [needs, Array.getElem?_eq_getElem hi]
 exact List.mem_map.2 ⟨e, List.mem_filter.2 ⟨by simpa using he, hb⟩, rfl⟩
theorem zjr {N : Nat} (hok : rgOk ops m N = true) : ∀ (k t : Nat) (listed : Array Bool) (a : Act) (w : World), t + k = ops.size → m ≤ t → listed.size = ops.size → (∀ j, j < ops.size → listed.getD j false = decide (j < t)) →
  wpOps P ops Q (List.range' t k) a w → wpAny P .any ops Q k listed a w := by
 obtain ⟨_, _, _, hlt, htl⟩ := zgg hok
 intro k
 induction k with
 | zero =>
  intro t listed a w ht _ hsz hl h
  refine ⟨?_, by simpa [wpOps] using h⟩
  refine List.eq_nil_iff_forall_not_mem.2 fun i hi => ?_
  obtain ⟨hi1, hi2, _⟩ := zcf hi
  have := hl i hi1
  rw [Array.getD_eq_getD_getElem?, Array.getElem?_eq_getElem o9] at hi2 this
  simp only [Option.getD_some] at hi2 this
  rw [hi2] at this
  have : ¬ i < t := by simpa using this.symm
  omega
 | succ k ih =>
  intro t listed a w ht hm hsz hl h
  have htn : t < ops.size := by omega
  have hun : listed.getD t true = false := by
   have := hl t htn
   rw [Array.getD_eq_getD_getElem?, Array.getElem?_eq_getElem o9] at this ⊢
   simpa using this
  have hrd : t ∈ Region.ready .any ops listed := zc3 htn hun fun j hj => by
   have := hlt t j hj
   rw [hl j o9]; simpa using this
  refine ⟨fun h0 => by rw [h0] at hrd; simp at hrd, fun i hi => ?_⟩
  obtain ⟨hi1, hi2, hi3⟩ := zcf hi
  have hit : t ≤ i := by
   rcases Nat.lt_or_ge i t with hc | hc
   ·
    have := hl i hi1
    rw [Array.getD_eq_getD_getElem?, Array.getElem?_eq_getElem o9] at hi2 this
    simp only [Option.getD_some] at hi2 this
    rw [hi2] at this
    simp at this
    omega
   ·
    exact hc
  have hie : i = t := by
   rcases Nat.lt_or_ge t i with hc | hc
   ·
    have h6 := hi3 t (htl i o9 hi1 t hc)
    rw [hl t htn] at h6
    simp at h6
   ·
    omega
  subst hie
  have h' : wpOps P ops Q (i :: List.range' (i + 1) k) a w := by simpa [List.range'_succ] using h
  rw [wpOps_cons] at h'
  refine wpOp_mono (fun a' w' hh => ih (i + 1) (listed.setIfInBounds i true) a' w' o9 o9 (by simpa using hsz) (fun j hj => ?_) hh) h'
  by_cases hji : i = j
  ·
   subst hji; rw [Array.getD_eq_getD_getElem?]; simp [hsz, hj]
  ·
   have := hl j hj
   rw [Array.getD_eq_getD_getElem?] at this ⊢
   rw [Array.getElem?_setIfInBounds_ne hji, this]
   simp only [decide_eq_decide]
   omega
theorem zdP (a : Act) (d : Option Tmp) (v : Value) : (a.put d v).tmps.size = a.tmps.size := by cases d <;> simp [Act.put]
theorem put_defers (a : Act) (d : Option Tmp) (v : Value) : (a.put d v).defers = a.defers := by cases d <;> rfl
theorem zeq {a : Act} {t : Tmp} {v : Value} (h : t < a.tmps.size) : (a.put (some t) v).tmps[t]?.getD undef = v := by simp [Act.put, h]
theorem zcH {a : Act} {d : Option Tmp} {t : Tmp} {v : Value} (h : d ≠ some t) : (a.put d v).tmps[t]?.getD undef = a.tmps[t]?.getD undef := by
 cases d with
 | none => rfl
 | some s => simp only [Act.put]; rw [Array.getElem?_setIfInBounds_ne (fun e => h (by rw [e]))]
theorem zcN (vs : Nat → Value) : ∀ (l : List Nat) (a : Act), (putL ops vs l a).tmps.size = a.tmps.size
 | [], _ => rfl
 | j :: r, a => by rw [putL, zcN vs r, zdP]
theorem zcn (vs : Nat → Value) : ∀ (l : List Nat) (a : Act), (putL ops vs l a).defers = a.defers
 | [], _ => rfl
 | j :: r, a => by rw [putL, zcn vs r, put_defers]
theorem zcg (vs : Nat → Value) {t : Tmp} : ∀ (l : List Nat) (a : Act), (∀ j ∈ l, zaU ops j ≠ some t) → (putL ops vs l a).tmps[t]?.getD undef = a.tmps[t]?.getD undef
 | [], _, _ => rfl
 | j :: r, a, h => by rw [putL, zcg vs r _ (fun k hk => h k (List.mem_cons_of_mem _ hk)), zcH (h j List.mem_cons_self)]
theorem zdr (vs : Nat → Value) {t : Tmp} {j : Nat} : ∀ (l : List Nat) (a : Act), j ∈ l → zaU ops j = some t → t < a.tmps.size → (∀ k ∈ l, zaU ops k = some t → k = j) → (putL ops vs l a).tmps[t]?.getD undef = vs j
 | [], _, h, _, _, _ => by simp at h
 | x :: r, a, h, ht, hs, hu => by
  rw [putL]
  by_cases hj : j ∈ r
  ·
   exact zdr vs r _ hj ht (by rw [zdP]; exact hs) (fun k hk => hu k (List.mem_cons_of_mem _ hk))
  ·
   have hx : x = j := by rcases List.mem_cons.1 h with h | h; exact h.symm; exact absurd h hj
   subst hx
   rw [zcg vs r _ (fun k hk hkt => hj (by rw [← hu k (List.mem_cons_of_mem _ hk) hkt]; exact hk)), ht, zeq hs]
theorem zfA {a b : Act} (hd : a.defers = b.defers) (hs : a.tmps.size = b.tmps.size) (h : ∀ t, t < a.tmps.size → a.tmps[t]?.getD undef = b.tmps[t]?.getD undef) : a = b := by
 obtain ⟨ta, da⟩ := a
 obtain ⟨tb, db⟩ := b
 simp only at hd hs h
 subst hd
 congr 1
 refine Array.ext hs fun i h1 h2 => ?_
 have := h i h1
 simpa [h1, h2] using this
theorem ze0 {β : Type} : ∀ (E : List (Nat × β)), (E.map (·.1)).Nodup → ∀ p ∈ E, ∀ q ∈ E, p.1 = q.1 → p = q
 | [], _, p, hp, _, _, _ => by simp at hp
 | x :: r, hn, p, hp, q, hq, he => by
  rw [List.map_cons, List.nodup_cons] at hn
  rcases List.mem_cons.1 hp with hp0 | hp
  ·
   rcases List.mem_cons.1 hq with hq0 | hq
   ·
    rw [hp0, hq0]
   ·
    exact absurd (List.mem_map.2 ⟨q, hq, by rw [← he, hp0]⟩) hn.1
  ·
   rcases List.mem_cons.1 hq with hq0 | hq
   ·
    exact absurd (List.mem_map.2 ⟨p, hp, by rw [he, hq0]⟩) hn.1
   ·
    exact ze0 r hn.2 p hp q hq he
theorem zkD {N : Nat} (hok : rgOk ops m N = true) (hN : a0.tmps.size = N) (hrefl : ∀ w, ρ w w) (htrans : ∀ {A B C}, ρ A B → ρ B C → ρ A C) (h : RG P ops Q ρ a0 w0 m [] (List.range m)) :
  wpAny P .any ops Q ops.size (Array.replicate ops.size false) a0 w0 := by
 obtain ⟨hm, hsl, hun, hlt, htl⟩ := zgg hok
 obtain ⟨E, hE, hst, hob, hfin⟩ := RG.out _ _ h
 rw [List.append_nil] at hfin
 have hEm : ∀ i, i < m → ∃ φ, (i, φ) ∈ E := fun i hi => by
  have : i ∈ E.map (·.1) := by rw [hE]; simpa using hi
  obtain ⟨p, hp, rfl⟩ := List.mem_map.1 this
  exact ⟨p.2, hp⟩
 have hEl : ∀ p ∈ E, p.1 < m := fun p hp => by
  have : p.1 ∈ E.map (·.1) := List.mem_map.2 ⟨p, hp, rfl⟩
  rw [hE] at this; simpa using this
 have hEu : ∀ p ∈ E, ∀ q ∈ E, p.1 = q.1 → p = q := by
  have hn : (E.map (·.1)).Nodup := by rw [hE]; exact List.pairwise_reverse.2 ((List.nodup_range (n := m)).imp (fun h => h.symm))
  intro p hp q hq he
  exact ze0 E hn p hp q hq he
 have key : ∀ (fuel : Nat) (listed : Array Bool) (vs : Nat → Value) (a : Act) (w : World), listed.size = ops.size → fuel + (List.range ops.size).countP (fun j => listed.getD j false) = ops.size →
   (∀ j, m ≤ j → j < ops.size → listed.getD j false = false) → ρ w0 w → a.defers = a0.defers → a.tmps.size = a0.tmps.size →
   (∀ j, j < m → listed.getD j false = true → ∀ t, zaU ops j = some t → a.tmps[t]?.getD undef = vs j) →
   (∀ t, (∀ j, j < m → listed.getD j false = true → zaU ops j ≠ some t) → a.tmps[t]?.getD undef = a0.tmps[t]?.getD undef) →
   (∀ p ∈ E, listed.getD p.1 false = true → p.2 (vs p.1) w) → wpAny P .any ops Q fuel listed a w := by
  intro fuel
  induction fuel with
  | zero =>
   intro listed vs a w hsz hc hno hρ hd hs hin hout hfact
   have hall : ∀ j, j < ops.size → listed.getD j false = true := by
    have := List.countP_eq_length (p := fun j => listed.getD j false) (l := List.range ops.size)
    have h2 := this.1 (by simpa using hc)
    exact fun j hj => h2 j (List.mem_range.2 hj)
   have hmn : m = ops.size := by
    rcases Nat.lt_or_ge m ops.size with hc' | hc'
    ·
     have := hno m (Nat.le_refl _) hc'
     rw [hall m hc'] at this; cases this
    ·
     omega
   have ha : a = putL ops vs (List.range m) a0 := by
    refine zfA (by rw [zcn, hd]) (by rw [zcN, hs]) fun t ht => ?_
    by_cases hx : ∃ j, j < m ∧ zaU ops j = some t
    ·
     obtain ⟨j, hj, hjt⟩ := hx
     rw [hin j hj (hall j o9) t hjt, zdr vs _ _ (List.mem_range.2 hj) hjt (by rw [← hs]; exact ht) (fun k hk hkt => hun k j (List.mem_range.1 hk) hj t hkt hjt)]
    ·
     rw [hout t (fun j hj _ e => hx ⟨j, hj, e⟩), zcg vs _ _ (fun j hj e => hx ⟨j, List.mem_range.1 hj, e⟩)]
   have hf := hfin vs w hρ (fun p hp => hfact p hp (hall _ (by have := hEl p hp; omega)))
   rw [← ha] at hf
   refine zjr hok 0 ops.size listed a w rfl hm hsz (fun j hj => by rw [hall j hj]; simpa using hj) ?_
   have : ops.size - m = 0 := by omega
   rw [this] at hf
   simpa [wpOps] using hf
  | succ fuel ih =>
   intro listed vs a w hsz hc hno hρ hd hs hin hout hfact
   by_cases hall : ∀ j, j < m → listed.getD j false = true
   ·
    -- the tail begins
    have ha : a = putL ops vs (List.range m) a0 := by
     refine zfA (by rw [zcn, hd]) (by rw [zcN, hs]) fun t ht => ?_
     by_cases hx : ∃ j, j < m ∧ zaU ops j = some t
     ·
      obtain ⟨j, hj, hjt⟩ := hx
      rw [hin j hj (hall j hj) t hjt, zdr vs _ _ (List.mem_range.2 hj) hjt (by rw [← hs]; exact ht) (fun k hk hkt => hun k j (List.mem_range.1 hk) hj t hkt hjt)]
     ·
      rw [hout t (fun j hj _ e => hx ⟨j, hj, e⟩), zcg vs _ _ (fun j hj e => hx ⟨j, List.mem_range.1 hj, e⟩)]
    have hf := hfin vs w hρ (fun p hp => hfact p hp (hall _ (hEl p hp)))
    rw [← ha] at hf
    have hcm : (List.range ops.size).countP (fun j => listed.getD j false) = m := by
     have h1 : ∀ (k n : Nat), n = m + k → n ≤ ops.size → (List.range n).countP (fun j => listed.getD j false) = m := by
      intro k
      induction k with
      | zero =>
       intro n hn hle
       have := (List.countP_eq_length (p := fun j => listed.getD j false) (l := List.range n)).2 (fun j hj => hall j (by have := List.mem_range.1 hj; omega))
       simpa [hn] using this
      | succ k ihk =>
       intro n hn hle
       obtain ⟨n', rfl⟩ : ∃ n', n = n' + 1 := ⟨n - 1, by omega⟩
       rw [List.range_succ, List.countP_append, ihk n' o9 o9]
       simp only [List.countP_singleton, hno n' o9 o9]
       simp
     exact h1 (ops.size - m) ops.size o9 (Nat.le_refl _)
    have hk : fuel + 1 = ops.size - m := by omega
    rw [hk]
    rw [← hk] at hf
    refine hk ▸ zjr hok (fuel + 1) m listed a w o9 (Nat.le_refl _) hsz (fun j hj => ?_) hf
    by_cases hjm : j < m
    ·
     rw [hall j hjm]; simpa using hjm
    ·
     rw [hno j o9 hj]; simpa using hjm
   ·
    refine ⟨fun h0 => ?_, fun i hi => ?_⟩
    ·
     -- the first one that has not come up may come up
     have hex : ∃ j, j < m ∧ listed.getD j false = false := by
      refine Classical.byContradiction fun hno' => hall fun j hj => ?_
      cases hb : listed.getD j false with
      | true => rfl
      | false => exact absurd ⟨j, hj, hb⟩ hno'
     have hmin : ∃ j, j < m ∧ listed.getD j false = false ∧ ∀ k, k < j → listed.getD k false = true := by
      obtain ⟨j, hj, hb⟩ := hex
      induction j using Nat.strongRecOn with
      | _ j ihj =>
       by_cases hk : ∀ k, k < j → listed.getD k false = true
       ·
        exact ⟨j, hj, hb, hk⟩
       ·
        obtain ⟨k, hk⟩ := Classical.not_forall.1 hk
        obtain ⟨hkj, hkb⟩ := Classical.not_imp.1 hk
        exact ihj k hkj o9 (by simpa using hkb)
     obtain ⟨j, hj, hb, hk⟩ := hmin
     have : j ∈ Region.ready .any ops listed := zc3 o9 (by
      rw [Array.getD_eq_getD_getElem?, Array.getElem?_eq_getElem o9] at hb ⊢; simpa using hb) (fun k hk' => hk k (hlt j k hk'))
     rw [h0] at this; simp at this
    ·
     obtain ⟨hi1, hi2, hi3⟩ := zcf hi
     have him : i < m := by
      rcases Nat.lt_or_ge i m with hc' | hc'
      ·
       exact hc'
      ·
       exact absurd (fun j (hj : j < m) => hi3 j (htl i hc' hi1 j o9)) hall
     obtain ⟨φ, hφ⟩ := hEm i him
     obtain ⟨E1, hE1, ho⟩ := hob _ hφ
     have hoi : ops[i]? = some ops[i] := Array.getElem?_eq_getElem hi1
     have hseen : Seen ops a0 m E1 i a w := by
      refine ⟨hd, hs, fun t ht => hout t (fun j hj _ => ht j hj), fun p hp hpn => ?_⟩
      have hpE : p ∈ E := by simpa using hE1 p hp
      exact ⟨vs p.1, fun t ht => hin p.1 (hEl p hpE) (hi3 _ hpn) t ht, hfact p hpE (hi3 _ hpn)⟩
     have h1 := ho _ hoi a w hρ hseen
     have hL : ∀ j, (listed.setIfInBounds i true).getD j false = if j = i then true else listed.getD j false := fun j => by
      by_cases hji : j = i
      ·
       subst hji; rw [Array.getD_eq_getD_getElem?]; simp [hsz, hi1]
      ·
       rw [Array.getD_eq_getD_getElem?, Array.getElem?_setIfInBounds_ne (Ne.symm hji), Array.getD_eq_getD_getElem?, if_neg hji]
     have hib : listed.getD i false = false := by
      rw [Array.getD_eq_getD_getElem?, Array.getElem?_eq_getElem o9] at hi2 ⊢; simpa using hi2
     have hcount : fuel + (List.range ops.size).countP (fun j => (listed.setIfInBounds i true).getD j false) = ops.size := by
      have h2 : ∀ n, n ≤ ops.size → (List.range n).countP (fun j => (listed.setIfInBounds i true).getD j false) = (List.range n).countP (fun j => listed.getD j false) + if i < n then 1 else 0 := by
       intro n
       induction n with
       | zero => intro _; simp
       | succ n ihn =>
        intro hn
        rw [List.range_succ, List.countP_append, List.countP_append, ihn o9]
        simp only [List.countP_singleton, hL]
        by_cases hni : n = i
        ·
         subst hni; simp [hib]
        ·
         rw [if_neg hni]
         by_cases h3 : i < n
         ·
          rw [if_pos h3, if_pos (show i < n + 1 by omega)]; omega
         ·
          rw [if_neg h3, if_neg (show ¬ i < n + 1 by omega)]; omega
      rw [h2 _ (Nat.le_refl _), if_pos hi1]; omega
     have go : ∀ (v : Value) (w' : World), ρ w w' → φ v w' → wpAny P .any ops Q fuel (listed.setIfInBounds i true) (a.put (zaU ops i) v) w' := by
      intro v w' hw' hv
      have hne : ∀ j, j < m → j ≠ i → ∀ t, zaU ops j = some t → zaU ops i ≠ some t := fun j hj hji t hjt hit => hji (hun j i hj him t hjt hit)
      refine ih (listed.setIfInBounds i true) (fun j => if j = i then v else vs j) _ _ (by simpa using hsz) hcount ?_ (htrans hρ hw') (by rw [put_defers, hd]) (by rw [zdP, hs]) ?_ ?_ ?_
      ·
       intro j hj hjn
       rw [hL, if_neg o9]; exact hno j hj hjn
      ·
       intro j hj hb t hjt
       rw [hL] at hb
       by_cases hji : j = i
       ·
        subst hji
        rw [if_pos rfl, hjt, zeq (Nat.lt_of_lt_of_le (hsl j hj t hjt) o9)]
       ·
        rw [if_neg hji] at hb ⊢
        rw [zcH (hne j hj hji t hjt)]
        exact hin j hj hb t hjt
      ·
       intro t ht
       have hi' := ht i him (by rw [hL, if_pos rfl])
       rw [zcH hi']
       refine hout t fun j hj hb => ?_
       by_cases hji : j = i
       ·
        subst hji; exact hi'
       ·
        exact ht j hj (by rw [hL, if_neg hji]; exact hb)
      ·
       intro p hp hb
       rw [hL] at hb
       by_cases hpi : p.1 = i
       ·
        have : p = (i, φ) := hEu p hp _ hφ hpi
        subst this
        simpa using hv
       ·
        rw [if_neg hpi] at hb ⊢
        exact hst p hp _ _ _ hw' (hfact p hp hb)
     have hso : zaU ops i = ops[i].dst := by simp [zaU, hoi]
     unfold wpOp
     simp only [hoi]
     by_cases hw : Region.wanted ops[i] (yielded ops a.tmps) = true
     ·
      rw [if_pos hw] at h1 ⊢
      refine .inl (Oper.wp_mono (fun a' w' hh => ?_) h1)
      obtain ⟨v, rfl, hw', hv⟩ := hh
      rw [← hso]
      exact go v w' hw' hv
     ·
      rw [if_neg hw] at h1 ⊢
      rw [← hso]
      exact go undef w (hrefl w) h1
 have h0 : ∀ j, (Array.replicate ops.size false).getD j false = false := fun j => by
  rw [Array.getD_eq_getD_getElem?]
  by_cases hj : j < ops.size
  ·
   rw [Array.getElem?_eq_getElem (by simpa using hj)]; simp
  ·
   rw [Array.getElem?_eq_none (by simpa using Nat.le_of_not_lt hj)]; rfl
 refine key ops.size _ (fun _ => undef) a0 w0 s9 ?_ (fun j _ _ => h0 j) (hrefl w0) rfl rfl (fun j _ hb => by rw [h0] at hb; cases hb) (fun _ _ => rfl) (fun p _ hb => by rw [h0] at hb; cases hb)
 have : (List.range ops.size).countP (fun j => (Array.replicate ops.size false).getD j false) = 0 := List.countP_eq_zero.2 fun j _ => by rw [h0]; simp
 omega
theorem zgt {id N : Nat} {a : Act} {w : World} (m : Nat) (ρ : World → World → Prop) (hm : P.follows .mixedOrders = true) (hok : rgOk ops m N = true) (hN : a.tmps.size = N) (hrefl : ∀ w, ρ w w) (htrans : ∀ {A B C}, ρ A B → ρ B C → ρ A C)
  (h : RG P ops Q ρ a w.drew m [] (List.range m)) : (Code.region id ops true).wp P Q a w :=
 wp_region_any hm (zkD hok hN hrefl htrans h)
theorem zbU {id N n : Nat} {r : Option Nat} {a : Act} {w : World} (m : Nat) (ρ : World → World → Prop) (hm : P.follows .mixedOrders = true) (hok : rgOk ops m N = true) (hd : ziQ ops = true) (hQ : ∀ a w, ¬ Q .outgrown a w) (hN : a.tmps.size = N) (hrefl : ∀ w, ρ w w) (htrans : ∀ {A B C}, ρ A B → ρ B C → ρ A C)
  (h : RG P ops Q ρ a w.drew m [] (List.range m)) : (Code.region id ops true).wpIn { Fence.wide with round := r } n P Q a w := by
 refine wpIn_region_draw fun t => zes hd hQ _ _ _ ?_
 simp only [Region.schedule, hm, Bool.true_or, if_true]
 exact wpAny_sound ops.size t _ a _ (zkD hok hN hrefl htrans h)
theorem rg_op {E : Env} {i : Nat} {r : List Nat} (φ : Value → World → Prop) (hs : ∀ v w w', ρ w w' → φ v w → φ v w') (ho : Ob P ops Q ρ a0 w0 m E i φ) (h : RG P ops Q ρ a0 w0 m ((i, φ) :: E) r) : RG P ops Q ρ a0 w0 m E (i :: r) := ⟨φ, hs, ho, h⟩
theorem zaF {E : Env} {i : Nat} {r : List Nat} {o : Oper} (v : Value) (hrefl : ∀ w, ρ w w) (hi : ops[i]? = some o)
  (hw : ∀ a w, ρ w0 w → Seen ops a0 m E i a w → Region.wanted o (yielded ops a.tmps) = true)
  (hr : ∀ a w, ρ w0 w → Seen ops a0 m E i a w → (execOp a.eval o).run P w = .ok (.value v) w) (h : RG P ops Q ρ a0 w0 m ((i, fun x _ => x = v) :: E) r) : RG P ops Q ρ a0 w0 m E (i :: r) := by
 refine rg_op _ (fun _ _ _ _ h => h) (fun o' ho' a w hρ hse => ?_) h
 obtain rfl : o = o' := Option.some.inj (hi.symm.trans ho')
 rw [if_pos (hw a w hρ hse)]
 unfold Oper.wp
 rw [hr a w hρ hse]
 exact ⟨v, rfl, hrefl w, rfl⟩
theorem zbL {E : Env} {i : Nat} {r : List Nat} {o : Oper} (hi : ops[i]? = some o)
  (hw : ∀ a w, ρ w0 w → Seen ops a0 m E i a w → Region.wanted o (yielded ops a.tmps) = false) (h : RG P ops Q ρ a0 w0 m ((i, fun x _ => x = undef) :: E) r) : RG P ops Q ρ a0 w0 m E (i :: r) := by
 refine rg_op _ (fun _ _ _ _ h => h) (fun o' ho' a w hρ hse => ?_) h
 obtain rfl : o = o' := Option.some.inj (hi.symm.trans ho')
 rw [hw a w hρ hse, if_neg s9]
theorem ze2 {E : Env} {i : Nat} {r : List Nat} {o : Oper} (φ : Value → World → Prop) (hs : ∀ v w w', ρ w w' → φ v w → φ v w') (hi : ops[i]? = some o)
  (hw : ∀ a w, ρ w0 w → Seen ops a0 m E i a w → Region.wanted o (yielded ops a.tmps) = true)
  (hr : ∀ a w, ρ w0 w → Seen ops a0 m E i a w → ∃ v w', (execOp a.eval o).run P w = .ok (.value v) w' ∧ ρ w w' ∧ φ v w') (h : RG P ops Q ρ a0 w0 m ((i, φ) :: E) r) : RG P ops Q ρ a0 w0 m E (i :: r) := by
 refine rg_op φ hs (fun o' ho' a w hρ hse => ?_) h
 obtain rfl : o = o' := Option.some.inj (hi.symm.trans ho')
 rw [if_pos (hw a w hρ hse)]
 obtain ⟨v, w', h1, h2, h3⟩ := hr a w hρ hse
 unfold Oper.wp
 rw [h1]
 exact ⟨v, rfl, h2, h3⟩
theorem zdu {E : Env} {i : Nat} {r : List Nat} {o : Oper} (φ : World → Prop) (hs : ∀ w w', ρ w w' → φ w → φ w') (hi : ops[i]? = some o)
  (hw : ∀ a w, ρ w0 w → Seen ops a0 m E i a w → Region.wanted o (yielded ops a.tmps) = true)
  (hr : ∀ a w, ρ w0 w → Seen ops a0 m E i a w → ∃ w', (execOp a.eval o).run P w = .ok .skip w' ∧ ρ w w' ∧ φ w') (h : RG P ops Q ρ a0 w0 m ((i, fun _ => φ) :: E) r) : RG P ops Q ρ a0 w0 m E (i :: r) := by
 refine rg_op (fun _ => φ) (fun _ => hs) (fun o' ho' a w hρ hse => ?_) h
 obtain rfl : o = o' := Option.some.inj (hi.symm.trans ho')
 rw [if_pos (hw a w hρ hse)]
 obtain ⟨w', h1, h2, h3⟩ := hr a w hρ hse
 unfold Oper.wp
 rw [h1]
 exact ⟨undef, rfl, h2, h3⟩
theorem zbc {E : Env} {i : Nat} {r : List Nat} {o : Oper} {f : FuncId} {fn : Func} {xs : Array Operand} {ts : Array TypeId} (φ : Value → World → Prop) (hs : ∀ v w w', ρ w w' → φ v w → φ v w') (hi : ops[i]? = some o)
  (hop : o.op = .call { callee := .value (.func f), args := xs, argTypes := ts }) (hf : P.funcs[f]? = some fn) (hname : (fn.name == "runtime.NumGoroutine") = false) (hb : fn.body.isSome = true)
  (hw : ∀ a w, ρ w0 w → Seen ops a0 m E i a w → Region.wanted o (yielded ops a.tmps) = true)
  (hr : ∀ a w, ρ w0 w → Seen ops a0 m E i a w → Calls P f (xs.map a.eval) w fun e w' => ∃ v, e = .returned v ∧ ρ w w' ∧ φ v w') (h : RG P ops Q ρ a0 w0 m ((i, φ) :: E) r) : RG P ops Q ρ a0 w0 m E (i :: r) := by
 refine rg_op φ hs (fun o' ho' a w hρ hse => ?_) h
 obtain rfl : o = o' := Option.some.inj (hi.symm.trans ho')
 have h1 := call_ (ops := ops) (Q := Q) (oi := o) (N := o.dst) (a := a) (w := w) (K := fun a' w' => ∃ v, a' = a.put o.dst v ∧ ρ w w' ∧ φ v w') f (xs.map a.eval) (hw a w hρ hse) rfl (by
  have he := zc2 hf hname hb (xs.map a.eval) w
  unfold execOp
  simp [hop, resolve, Deferred.ofValue, invoke, Act.eval, he]) ((hr a w hρ hse).mono fun e w' ⟨v, hv, h2, h3⟩ => ⟨v, hv, v, rfl, h2, h3⟩)
 rw [if_pos (hw a w hρ hse)] at h1 ⊢
 exact h1
theorem Seen.get {E : Env} {i : Nat} {a : Act} {w : World} (h : Seen ops a0 m E i a w) (k : Nat) {p : Nat × (Value → World → Prop)} (hk : E[k]? = some p) (hn : (needs ops i).contains p.1 = true) {t : Tmp} (ht : zaU ops p.1 = some t) : p.2 (a.tmps[t]?.getD undef) w := by
 obtain ⟨v, h1, h2⟩ := h.known p (List.mem_of_getElem? hk) (by simpa using hn)
 rw [h1 t ht]; exact h2
theorem Seen.out {E : Env} {i : Nat} {a : Act} {w : World} (h : Seen ops a0 m E i a w) (t : Tmp) (ht : (((List.range m).filterMap (zaU ops)).contains t) = false) : a.tmps[t]?.getD undef = a0.tmps[t]?.getD undef :=
 h.outer t fun j hj e => by
  have : t ∈ (List.range m).filterMap (zaU ops) := List.mem_filterMap.2 ⟨j, List.mem_range.2 hj, e⟩
  simp [this] at ht
theorem zae {o : Oper} {f : Nat → Option Bool} (h : o.guard = none) : Region.wanted o f = true := by simp [Region.wanted, h]
theorem zfq {a : Act} {g : Nat} {t : Tmp} {b : Bool} (hs : zaU ops g = some t) (h : a.tmps[t]?.getD undef = .bool b) : yielded ops a.tmps g = some b := by
 have hs' : (ops[g]?).bind (·.dst) = some t := hs
 unfold yielded
 rw [hs']
 cases ht : a.tmps[t]? with
 | none => rw [ht] at h; cases h
 | some v => rw [ht] at h; simp only [Option.getD_some] at h; simp [ht, h]
theorem zax {o : Oper} {a : Act} {g : Nat} {t : Tmp} {b : Bool} (ho : o.guard = some (g, b)) (hs : zaU ops g = some t) (h : a.tmps[t]?.getD undef = .bool b) : Region.wanted o (yielded ops a.tmps) = true := by
 simp [Region.wanted, ho, zfq hs h]
theorem zbl {o : Oper} {a : Act} {g : Nat} {t : Tmp} {b b' : Bool} (ho : o.guard = some (g, b)) (hs : zaU ops g = some t) (h : a.tmps[t]?.getD undef = .bool b') : Region.wanted o (yielded ops a.tmps) = (b' == b) := by
 simp [Region.wanted, ho, zfq hs h]
theorem zc4 {i : Nat} {r : List Nat} {o : Oper} {a : Act} {w w' : World} (v : Value) (hi : ops[i]? = some o) (hw : Region.wanted o (yielded ops a.tmps) = true) (hr : (execOp a.eval o).run P w = .ok (.value v) w')
  (h : wpOps P ops Q r (a.put o.dst v) w') : wpOps P ops Q (i :: r) a w := by
 rw [wpOps_cons]
 unfold wpOp
 simp only [hi, hw, if_true]
 refine .inl ?_
 unfold Oper.wp
 rw [hr]
 exact h
theorem zcQ {i : Nat} {r : List Nat} {o : Oper} {a : Act} {w w' : World} (hi : ops[i]? = some o) (hw : Region.wanted o (yielded ops a.tmps) = true) (hr : (execOp a.eval o).run P w = .ok .skip w')
  (h : wpOps P ops Q r (a.put o.dst undef) w') : wpOps P ops Q (i :: r) a w := by
 rw [wpOps_cons]
 unfold wpOp
 simp only [hi, hw, if_true]
 refine .inl ?_
 unfold Oper.wp
 rw [hr]
 exact h
theorem zaX {a : Act} {w : World} (h : Q .normal a w) : wpOps P ops Q [] a w := by simpa [wpOps] using h
end
def Grows (A B : World) : Prop := Below A.heap.size A B
theorem Grows.refl (w : World) : Grows w w := Below.refl _ _
theorem Grows.trans {A B C : World} (h1 : Grows A B) (h2 : Grows B C) : Grows A C := Below.trans h1 (h2.mono h1.size)
section
variable {P : Program} {ops : Array Oper} {Q : Exit → Act → World → Prop} {a0 : Act} {w0 : World} {m : Nat}
end
end Go.Proofs.YtinkbljjpafadaaRG
end

section
namespace Go.Proofs.YtinkbljjpafadaaMp
open Go.RowKit Go.Proofs.YtinkbljjpafadaaW.PrintWords Go.Proofs.YtinkbljjpafadaaRF
open Go.Instr
section
variable {α β : Type} (kenc : α → Value) (venc : β → Value)
def ent (e : α × β × Nat) : MapEntry := { key := kenc e.1, val := venc e.2.1, born := e.2.2 }
def zbR (L : List (α × β × Nat)) (c : Nat) : Obj := .map (L.map (ent kenc venc)).toArray c
end
structure KeyLaw {α : Type} (P : Program) (K : TypeId) (kenc : α → Value) (keq : α → α → Bool) : Prop where
 check : ∀ e a w, (checkKey e 10000 K (kenc a)).run P w = .ok () w
 eq : ∀ a b w, (Op.equal K (kenc a) (kenc b)).run P w = .ok (keq a b) w
 now : ∃ d, P.underlying K = some d ∧ ∀ a b, sameNow d (kenc a) (kenc b) = none ∨ sameNow d (kenc a) (kenc b) = some (keq a b)
 bits : ∀ a b, keq a b = true → a = b ∧ sameBits 10000 (kenc b) (kenc a) = true
section
variable {α β : Type} {P : Program} {K : TypeId} {kenc : α → Value} {venc : β → Value} {keq : α → α → Bool}
def zbw (keq : α → α → Bool) (k : α) : List (α × β × Nat) → Nat → Option (Nat × β)
 | [], _ => none
 | e :: r, i => if keq k e.1 = true then some (i, e.2.1) else zbw keq k r (i + 1)
theorem zdp (h : KeyLaw P K kenc keq) (k : α) (w : World) : ∀ (L : List (α × β × Nat)) (i : Nat), (findAsking K (kenc k) (L.map (ent kenc venc)) i).run P w = .ok ((zbw keq k L i).map fun x => (x.1, venc x.2)) w
 | [], i => by simp [findAsking, zbw, Sem.run_pure]
 | e :: r, i => by
  simp only [List.map_cons, findAsking, Sem.run_bind, ent, h.eq, Result.andThen, zbw]
  cases hk : keq k e.1
  ·
   simpa using zdp h k w r (i + 1)
  ·
   simp [Sem.run_pure]
theorem zeT {d : TypeDesc} (hs : ∀ a b, sameNow d (kenc a) (kenc b) = none ∨ sameNow d (kenc a) (kenc b) = some (keq a b)) (k : α) : ∀ (L : List (α × β × Nat)) (i : Nat) (r : Option (Nat × Value)), findNow d (kenc k) (L.map (ent kenc venc)) i = some r → r = (zbw keq k L i).map fun x => (x.1, venc x.2)
 | [], i, r, h => by simp [findNow] at h; simp [zbw, h]
 | e :: L, i, r, h => by
  simp only [List.map_cons, findNow, ent] at h
  rcases hs k e.1 with hn | hn
  ·
   rw [hn] at h; cases h
  ·
   rw [hn] at h
   cases hk : keq k e.1
   ·
    rw [hk] at h; simp only [zbw, hk, Bool.false_eq_true, if_false]; exact zeT hs k L (i + 1) r h
   ·
    rw [hk] at h; simp only [Option.some.injEq] at h; simp [zbw, hk, ← h]
theorem zez (h : KeyLaw P K kenc keq) (k : α) (w : World) (L : List (α × β × Nat)) : (findKey K (kenc k) (L.map (ent kenc venc))).run P w = .ok ((zbw keq k L 0).map fun x => (x.1, venc x.2)) w := by
 obtain ⟨d, hd, hs⟩ := h.now
 simp only [findKey, Sem.run_bind, run_underlying hd, Result.andThen]
 cases hf : findNow d (kenc k) (L.map (ent kenc venc)) 0 with
 | none => exact zdp h k w L 0
 | some r => simp only [Sem.run_pure]; rw [zeT hs k L 0 r hf]
theorem run_getObj_map {w : World} {B : Nat} {es : Array MapEntry} {c : Nat} (h : w.heap[B]? = some (.map es c)) : (getObj B).run P w = .ok (.map es c) w := by simp [getObj, Sem.run, h]
theorem run_setObj_map {w : World} {B : Nat} {es : Array MapEntry} {c : Nat} (o : Obj) (h : w.heap[B]? = some (.map es c)) : (setObj B o).run P w = .ok () (w.putObj B o) := by simp [setObj, Sem.run, h, World.putObj]
theorem zcs (h : KeyLaw P K kenc keq) {T E : TypeId} (hT : P.underlying T = some (.map K E)) {z : Value} (hz : ∀ w, (zeroValue E).run P w = .ok z w) {w : World} {B : Nat} {L : List (α × β × Nat)} {c : Nat} (hB : w.heap[B]? = some (zbR kenc venc L c)) (k : α) :
  (lookup T (.map (some B)) (kenc k) true).run P w = .ok (match zbw keq k L 0 with | some (_, v) => .tuple #[venc v, .bool true] | none => .tuple #[z, .bool false]) w := by
 unfold zbR at hB
 simp only [lookup, Sem.run_bind, run_underlying hT, Result.andThen, run_getObj_map hB, Sem.run_pure, h.check, List.toList_toArray, zez h]
 cases hf : zbw keq k L 0 with
 | none => simp [hz, Sem.run_bind, Result.andThen, Sem.run_pure]
 | some x => obtain ⟨i, v⟩ := x; simp [Sem.run_pure, Result.andThen]
def upd (keq : α → α → Bool) (k : α) (v : β) (c : Nat) (L : List (α × β × Nat)) : List (α × β × Nat) × Nat :=
 match zbw keq k L 0 with
 | some (i, _) => (L.modify i fun e => (k, v, e.2.2), c)
 | none => (L ++ [(k, v, c)], c + 1)
theorem zfo (k : α) : ∀ (L : List (α × β × Nat)) (n i : Nat) (v : β), zbw keq k L n = some (i, v) → ∃ j, i = n + j ∧ j < L.length ∧ ∃ e, L[j]? = some e ∧ keq k e.1 = true
 | [], n, i, v, h => by simp [zbw] at h
 | e :: r, n, i, v, h => by
  simp only [zbw] at h
  by_cases hk : keq k e.1 = true
  ·
   rw [if_pos hk] at h; cases h; exact ⟨0, rfl, by simp, e, rfl, hk⟩
  ·
   rw [if_neg hk] at h
   obtain ⟨j, h1, h2, e', h3, h4⟩ := zfo k r (n + 1) i v h
   exact ⟨j + 1, by omega, by simp; omega, e', by simpa using h3, h4⟩
theorem zdk (h : KeyLaw P K kenc keq) {T E : TypeId} (hT : P.underlying T = some (.map K E)) {w : World} {B : Nat} {L : List (α × β × Nat)} {c : Nat} (hB : w.heap[B]? = some (zbR kenc venc L c)) (k : α) (v : β) :
  (mapUpdate T (.map (some B)) (kenc k) (venc v)).run P w = .ok () (w.putObj B (zbR kenc venc (upd keq k v c L).1 (upd keq k v c L).2)) := by
 have hB' := hB
 unfold zbR at hB
 simp only [mapUpdate, Sem.run_bind, run_underlying hT, Result.andThen, run_getObj_map hB, h.check, List.toList_toArray, zez h]
 cases hf : zbw keq k L 0 with
 | none =>
  simp only [Option.map_none, run_setObj_map _ hB, upd, hf, zbR]
  simp [ent]
 | some x =>
  obtain ⟨i, u⟩ := x
  obtain ⟨j, hj, hlt, e, he, hke⟩ := zfo k L 0 i u hf
  obtain rfl : i = j := by omega
  obtain ⟨h1, h2⟩ := h.bits k e.1 hke
  have hold : ((((L.map (ent kenc venc)).toArray[i]?).map (·.key)).getD (kenc k)) = kenc e.1 := by simp [he, ent]
  simp only [Option.map_some, Sem.run_bind, keyThatStays, hold, h2, if_true, Sem.run_pure, Result.andThen, run_setObj_map _ hB, upd, hf, zbR]
  congr 3
  refine Array.ext' ?_
  rw [List.toList_toArray, Array.toList_modify, List.toList_toArray]
  refine List.ext_getElem? fun q => ?_
  simp only [List.getElem?_modify, List.getElem?_map]
  by_cases hq : i = q
  ·
   subst hq; simp [he, ent]
  ·
   simp [hq]
def left (seen : Array Nat) (L : List (α × β × Nat)) : List (α × β × Nat) := L.filter fun e => !seen.contains e.2.2
theorem zcG {w : World} {R : Nat} {m : Option Nat} {s : Nat} {seen : Array Nat} {l : Nat} (h : w.heap[R]? = some (.mapIter m s seen l)) : (getObj R).run P w = .ok (.mapIter m s seen l) w := by simp [getObj, Sem.run, h]
theorem zev {w : World} {R : Nat} {m : Option Nat} {s : Nat} {seen : Array Nat} {l : Nat} (o : Obj) (h : w.heap[R]? = some (.mapIter m s seen l)) : (setObj R o).run P w = .ok () (w.putObj R o) := by simp [setObj, Sem.run, h, World.putObj]
theorem ziE {T E : TypeId} (hT : P.underlying T = some (.map K E)) {w : World} {B : Nat} {L : List (α × β × Nat)} {c : Nat} (hB : w.heap[B]? = some (zbR kenc venc L c)) :
  (Instr.range T (.map (some B))).run P w = .ok (.pointer (some ⟨w.heap.size, 0, none⟩)) (w.alloc (.mapIter (some B) c #[] c)) := by
 unfold zbR at hB
 simp only [Instr.range, Sem.run_bind, run_underlying hT, Result.andThen, run_getObj_map hB, Sem.run_pure, run_newObj_alloc]
theorem zis (q : Question) (w : World) : ∃ k w1, (choose q).run P w = .ok k w1 ∧ (w1 = w ∨ w1 = w.drew) ∧ (q.forced = true → k = 0 ∧ w1 = w) ∧ (q.forced = false → k = q.cut (w.tape w.drawn q)) := by
 unfold choose
 simp only [Sem.run]
 cases hf : q.forced
 ·
  exact ⟨_, _, rfl, .inr rfl, (fun h => by simp at h), fun _ => rfl⟩
 ·
  exact ⟨0, w, rfl, .inl rfl, fun _ => ⟨rfl, rfl⟩, (fun h => by simp at h)⟩
theorem zka (T : TypeId) {w : World} {B R : Nat} {L : List (α × β × Nat)} {c : Nat} {seen : Array Nat} (hB : w.heap[B]? = some (zbR kenc venc L c)) (hR : w.heap[R]? = some (.mapIter (some B) c seen c)) (hborn : ∀ e ∈ L, e.2.2 < c) :
  (left seen L = [] → (Instr.next (.pointer (some ⟨R, 0, none⟩)) false T).run P w = .ok (.tuple #[.bool false]) w) ∧
  (left seen L ≠ [] → ∃ e ∈ left seen L, ∃ w1, (w1 = w ∨ w1 = w.drew) ∧
   (Instr.next (.pointer (some ⟨R, 0, none⟩)) false T).run P w = .ok (.tuple #[.bool true, kenc e.1, venc e.2.1]) (w1.putObj R (.mapIter (some B) c (seen.push e.2.2) c))) := by
 unfold zbR at hB
 have hguard : (!seen.isEmpty && !(L.map (ent kenc venc)).toArray.isEmpty && (L.map (ent kenc venc)).toArray.all (fun e => decide (e.born ≥ c))) = false := by
  cases L with
  | nil => simp
  | cons x r =>
   have := hborn x s9
   have h2 : decide ((ent kenc venc x).born ≥ c) = false := by simp [ent]; omega
   simp [h2]
 have hleft : ((L.map (ent kenc venc)).toArray.filter fun e => !seen.contains e.born) = ((left seen L).map (ent kenc venc)).toArray := by
  rw [List.filter_toArray, List.filter_map]; rfl
 have hold : (((left seen L).map (ent kenc venc)).toArray.filter fun e => decide (e.born < c)) = ((left seen L).map (ent kenc venc)).toArray := by
  rw [List.filter_toArray, List.filter_map]
  congr 2
  refine List.filter_eq_self.2 fun e he => ?_
  have := hborn e (List.mem_filter.1 he).1
  exact decide_eq_true this
 have hnew : (((left seen L).map (ent kenc venc)).toArray.filter fun e => decide (e.born ≥ c)) = #[] := by
  rw [List.filter_toArray, List.filter_map]
  have : (left seen L).filter ((fun e : MapEntry => decide (e.born ≥ c)) ∘ ent kenc venc) = [] := by
   refine List.filter_eq_nil_iff.2 fun e he => ?_
   have := hborn e (List.mem_filter.1 he).1
   intro h; have h2 : e.2.2 ≥ c := of_decide_eq_true h; have h3 : e.2.2 < c := this; exact absurd h3 (Nat.not_lt.2 h2)
  rw [this]; rfl
 constructor
 ·
  intro hl
  simp only [Instr.next, Sem.run_bind, zcG hR, Result.andThen, run_getObj_map hB, hguard, Bool.false_eq_true, if_false, Sem.run_pure, hleft, hold, hnew, hl, List.map_nil]
  simp [choose, Sem.run, Question.forced, Sem.run_pure, Result.andThen]
 ·
  intro hl
  have hne : ((left seen L).map (ent kenc venc)).toArray.isEmpty = false := by cases h : left seen L with | nil => exact absurd h hl | cons x r => simp
  obtain ⟨k, w1, hk, hw1, hk1, hk2⟩ := zis (P := P) (.mapNext (((left seen L).map (ent kenc venc)).toArray ++ #[]).size) w
  have hpos : 0 < (left seen L).length := List.length_pos_iff.2 hl
  have hlt : k < (left seen L).length := by
   cases hf : Question.forced (.mapNext (((left seen L).map (ent kenc venc)).toArray ++ #[]).size) with
   | true => rw [(hk1 hf).1]; exact hpos
   | false => rw [hk2 hf]; simp only [Question.cut]; simp; exact Nat.mod_lt _ hpos
  have hR1 : w1.heap[R]? = some (.mapIter (some B) c seen c) := by rcases hw1 with rfl | rfl <;> exact hR
  refine ⟨(left seen L)[k], List.getElem_mem hlt, w1, hw1, ?_⟩
  simp only [Instr.next, Sem.run_bind, zcG hR, Result.andThen, run_getObj_map hB, hguard, Bool.false_eq_true, if_false, Sem.run_pure, hleft, hold, hnew, hne]
  have hsz : (#[] ++ Array.map some (((left seen L).map (ent kenc venc)).toArray ++ #[])).size = (((left seen L).map (ent kenc venc)).toArray ++ #[]).size := by simp
  rw [hsz, hk]
  have hget : (#[] ++ Array.map some (((left seen L).map (ent kenc venc)).toArray ++ #[]))[k]? = some (some (ent kenc venc (left seen L)[k])) := by simp [hlt]
  simp only [hget, Sem.run_bind, zev _ hR1, Result.andThen, Sem.run_pure, ent]
theorem find_born : ∀ (L : List (α × β × Nat)) (e : α × β × Nat), e ∈ L → (L.map (·.2.2)).Nodup → (L.map (ent kenc venc)).find? (fun x => x.born == e.2.2) = some (ent kenc venc e)
 | [], e, h, _ => by simp at h
 | x :: r, e, h, hn => by
  simp only [List.map_cons, List.nodup_cons] at hn
  simp only [List.map_cons, List.find?_cons, ent]
  rcases List.mem_cons.1 h with rfl | h
  ·
   simp
  ·
   have : (x.2.2 == e.2.2) = false := by
    simp only [beq_eq_false_iff_ne]
    intro he
    exact hn.1 (List.mem_map.2 ⟨e, h, he.symm⟩)
   simp only [this]
   exact find_born r e h hn.2
theorem ziX {w : World} {B R : Nat} {L : List (α × β × Nat)} {c s : Nat} {seen : Array Nat} {e : α × β × Nat} (hB : w.heap[B]? = some (zbR kenc venc L c)) (hR : w.heap[R]? = some (.mapIter (some B) s (seen.push e.2.2) c)) (he : e ∈ L) (hn : (L.map (·.2.2)).Nodup) :
  (Instr.entry (.pointer (some ⟨R, 0, none⟩))).run P w = .ok (.tuple #[kenc e.1, venc e.2.1]) w := by
 unfold zbR at hB
 have hf : (L.map (ent kenc venc)).toArray.find? (fun x => x.born == e.2.2) = some (ent kenc venc e) := by
  rw [List.find?_toArray]; exact find_born L e he hn
 simp only [Instr.entry, Sem.run_bind, zcG hR, Result.andThen, Array.back?_push, run_getObj_map hB, bne_self_eq_false, Bool.false_eq_true, if_false, Sem.run_pure, hf, ent]
theorem zjk {seen : Array Nat} {L : List (α × β × Nat)} {e : α × β × Nat} (he : e ∈ left seen L) : (left (seen.push e.2.2) L).length < (left seen L).length := by
 have h1 : left (seen.push e.2.2) L = (left seen L).filter fun x => !(x.2.2 == e.2.2) := by
  unfold left
  rw [List.filter_filter]
  refine List.filter_congr fun x _ => ?_
  by_cases h : x.2.2 = e.2.2 <;> simp [h, Bool.and_comm]
 rw [h1]
 exact List.length_filter_lt_length_iff_exists.2 ⟨e, he, by simp⟩
end
end Go.Proofs.YtinkbljjpafadaaMp
end

section
namespace Go.Proofs.YtinkbljjpafadaaHChain
open Go.RowKit Go.Proofs.YtinkbljjpafadaaW.PrintWords Go.Proofs.YtinkbljjpafadaaRF Go.Proofs.YtinkbljjpafadaaRG
attribute [local go_sem] Oper.semAt_some
def idx (N : Nat) (back : Bool) (i : Nat) : Int := if back then (N : Int) - 1 - i else i
def idxs (N : Nat) (back : Bool) : List Int := (List.range N).map (idx N back)
theorem zgG (N : Nat) (back : Bool) (k : Nat) (h : k < N) : (idxs N back).take (k + 1) = (idxs N back).take k ++ [idx N back k] := by
 unfold idxs
 rw [← List.map_take, ← List.map_take, List.take_range, List.take_range, Nat.min_eq_left o9, Nat.min_eq_left o9, List.range_succ]
 simp
theorem zke (N : Nat) (back : Bool) : (idxs N back).take N = idxs N back := by
 rw [List.take_of_length_le]; simp [idxs]
theorem zfc (N : Int) (back : Bool) (w : World) :
  Calls Try.prog 71 #[.int .i64 N, .bool back] w fun e w' => e = .returned (.func (.func 82) #[] #[.pointer (some ⟨w.heap.size, 0, none⟩), .pointer (some ⟨w.heap.size + 1, 0, none⟩)]) ∧
   w' = (w.alloc (.cells #[.int .i64 N] 3)).alloc (.cells #[.bool back] 4) := by
 go_enter Try.func71, Try.ntmps71
 go_wp2
 go_ret
 exact ⟨rfl, rfl⟩
theorem zfp (n : Nat) (hn : 2 ≤ n) (N : Nat) (hN : N ≤ 4611686018427387904) (back : Bool) (Bn Bb : Nat) (w : World)
  (hBn : w.heap[Bn]? = some (.cells #[.int .i64 N] 3 (0, 0))) (hBb : w.heap[Bb]? = some (.cells #[.bool back] 4 (0, 0))) :
  Iter Fence.wide n Try.prog 82 #[.pointer (some ⟨Bn, 0, none⟩), .pointer (some ⟨Bb, 0, none⟩)] (fun i : Int => #[.int .i64 i]) (fun l => l <+: idxs N back) (fun l => l = idxs N back) (fun k => k = Bn ∨ k = Bb) (fun _ => False) w := by
 intro l J Jx O W hJ hJx hY hmv hO hOl h0
 have hn1 : 1 ≤ n - 1 := by omega
 have hB1 := hmv.at hBn (fun h => h)
 have hB2 := hmv.at hBb (fun h => h)
 refine callsIn_of_wp Try.func82 rfl trivial ?_ rfl
 simp only [Try.ntmps82, List.size_toArray, List.length_cons, List.length_nil, Nat.reduceAdd, Nat.reduceSub, Array.replicate_succ, Array.replicate_zero, List.push_toArray, List.append_toArray, List.nil_append, List.cons_append]
 have hc1 := zad hB1 0
 have hc2 := zad hB2 0
 simp only [List.getElem?_toArray, List.getElem?_cons_zero] at hc1 hc2
 gi_wp2
 gi_loopw [6, 4] (fun v6 v4 wr => ∃ k : Nat, k ≤ N ∧ v6 = .int .i64 k ∧ zaa (J ((idxs N back).take k) O wr ∧ (∀ k, O k → k < wr.heap.size) ∧ wr.heap[Bn]? = some (.cells #[.int .i64 N] 3 (0, 0)) ∧ wr.heap[Bb]? = some (.cells #[.bool back] 4 (0, 0))))
  (fun v6 _ _ => N - (intOf v6).toNat)
 case atStart => exact ⟨0, Nat.zero_le _, rfl, ⟨by simpa using h0, hOl, hB1, hB2⟩⟩
 case round =>
  clear hc1 hc2
  obtain ⟨k, hk, rfl, ⟨hj, hol, hb1, hb2⟩⟩ := hrel
  have hc1 := zad hb1 0
  have hc2 := zad hb2 0
  simp only [List.getElem?_toArray, List.getElem?_cons_zero] at hc1 hc2
  by_cases hlt : k < N
  ·
   obtain ⟨fn, tmps, assign, body, hy, hR⟩ := hY _ (idx N back k) O wr hj ⟨(idxs N back).drop (k + 1), by rw [← zgG N back k hlt, List.take_append_drop]⟩ hol
   have HR := zaa.mk hR
   have HJ := zaa.mk hj
   have HOL := zaa.mk hol
   have HB1 := zaa.mk hb1
   have HB2 := zaa.mk hb2
   clear hR hj hol hb1 hb2 h0 hOl hB1 hB2 hBn hBb hY
   cases back
   all_goals
    simp only [idx, Bool.false_eq_true, if_false, if_true] at hy
    gi_wp2
    refine ⟨fun _ => by omega, HR.out.mono ?_⟩
    rintro e W3 (⟨rfl, hJ3, hm3⟩ | ⟨rfl, hJx3, hm3⟩)
    ·
     have hb1' := hm3.at HB1.out (fun h => h.1 (hO _ (.inl rfl)))
     have hb2' := hm3.at HB2.out (fun h => h.1 (hO _ (.inr rfl)))
     have hJ3' := zaa.mk hJ3
     have hm3' := zaa.mk hm3
     have hb1' := zaa.mk hb1'
     have hb2' := zaa.mk hb2'
     clear hJ3 hm3 hy hc1 hc2
     gi_wp2
     go_roundw
     case rel => exact ⟨k + 1, by omega, by go_num, ⟨by rw [zgG N _ k hlt]; exact hJ3'.out, fun j hj => Nat.lt_of_lt_of_le (HOL.out j hj) hm3'.out.size, hb1'.out, hb2'.out⟩⟩
     case measure => simp [intOf]; omega
    ·
     have hJx3' := zaa.mk hJx3
     have hm3' := zaa.mk hm3
     clear hJx3 hm3 hy hc1 hc2
     gi_wp2
     refine bodyPost_ret (results_none rfl _ _ _) rfl ?_
     exact ⟨⟨_, rfl⟩, .inr ⟨_, O, hJx3'.out, fun j hj => Nat.lt_of_lt_of_le (HOL.out j hj) hm3'.out.size⟩⟩
  ·
   have HJ := zaa.mk hj
   have HOL := zaa.mk hol
   have hkN : k = N := by omega
   have HK := zaa.mk hkN
   clear hj hol hb1 hb2 h0 hOl hB1 hB2 hBn hBb hY hkN
   gi_wp2
   go_end0
   exact ⟨⟨_, rfl⟩, .inl ⟨_, O, rfl, by have := HJ.out; rw [HK.out, zke] at this; exact this, HOL.out⟩⟩
end Go.Proofs.YtinkbljjpafadaaHChain
end

section
namespace Go.Proofs.YtinkbljjpafadaaHChain
open Go.RowKit Go.Proofs.YtinkbljjpafadaaW.PrintWords Go.Proofs.YtinkbljjpafadaaW.PrintLast Go.Proofs.YtinkbljjpafadaaRF Go.Proofs.YtinkbljjpafadaaRG Go.Proofs.YtinkbljjpafadaaMp
attribute [local go_sem] Oper.semAt_some
abbrev Letter := Bool × ByteArray
def kenc (x : Letter) : Value := .agg #[.bool x.1, .string x.2]
def venc (n : Int) : Value := .agg #[.int .i64 n]
def keq (a b : Letter) : Bool := a.1 == b.1 && a.2.toList == b.2.toList
theorem eqA70 (d : Nat) (w : World) (x0 y0 : Bool) (x1 y1 : ByteArray) :
  (Op.equalIn (d + 2) 131 (.agg #[.bool x0, .string x1]) (.agg #[.bool y0, .string y1])).run Try.prog w = .ok (x0 == y0 && x1.toList == y1.toList) w := by
 refine zjf Try.underlying131 k9 ?_
 refine zen (by rfl) (by go_simp; rfl) (by go_simp; rfl) q9 ?_
 exact zfI (by rfl) (by go_simp; rfl) (by go_simp; rfl) q9
theorem toList_inj {a b : ByteArray} (h : a.toList = b.toList) : a = b := by
 have h2 : a.data.toList = b.data.toList := by rw [Go.ByteArray.toList_eq, Go.ByteArray.toList_eq] at h; exact h
 exact ByteArray.ext (Array.toList_inj.1 h2)
theorem zca : KeyLaw Try.prog 131 kenc keq where
 check := fun e a w => by cases a; kernel_rfl
 eq := fun a b w => by
  have := eqA70 9998 w a.1 b.1 a.2 b.2
  unfold Op.equal Op.maxDepth
  exact this
 now := ⟨_, Try.underlying131, fun a b => .inl rfl⟩
 bits := fun a b h => by
  obtain ⟨a1, a2⟩ := a
  obtain ⟨b1, b2⟩ := b
  simp only [keq, Bool.and_eq_true, beq_iff_eq] at h
  obtain ⟨rfl, h2⟩ := h
  obtain rfl := toList_inj h2
  exact ⟨rfl, by simp [kenc, Instr.sameBits]; exact (Go.MapKept.bytes_beq a2 a2).mpr rfl⟩
theorem zbE (w : World) : (zeroValue 128).run Try.prog w = .ok (venc 0) w := by kernel_rfl
theorem zcy (o : Bool) (c : ByteArray) (n : Int) (w : World) :
  Calls Try.prog 72 #[.agg #[.bool o, .string c, .int .i64 n]] w fun e w' => e = .returned (kenc (o, c)) ∧ Below w.heap.size w w' := by
 have hu := Try.underlying131
 have hu2 := Try.underlying35
 go_enter Try.func72, Try.ntmps72
 go_wp2
 refine bodyPost_ret (v := .agg #[.bool o, .string c]) (by simp [results, Try.results72, go_sem, hu]) rfl ⟨rfl, ?_⟩
 exact (((Below.refl _ _).alloc (Nat.le_refl _) _).alloc s9 _)
abbrev Lay := Bool × ByteArray × Int
def RdL (n₀ : Nat) (w : World) (A : Option Addr) (N : Nat) (ls : Nat → Lay) : Prop :=
 ∀ i, i < N → ∃ ad, A = some ad ∧ ad.block < n₀ ∧ w.cell? (ad.add (i * 3)) = some (.bool (ls i).1) ∧ w.cell? ⟨(ad.add (i * 3)).block, (ad.add (i * 3)).off + 1, none⟩ = some (.string (ls i).2.1) ∧ w.cell? ⟨(ad.add (i * 3)).block, (ad.add (i * 3)).off + 2, none⟩ = some (.int .i64 (ls i).2.2)
theorem add_block (a : Addr) (n : Nat) : (a.add n).block = a.block := by unfold Addr.add; split <;> rfl
theorem RdL.below {n₀ : Nat} {w W : World} {A : Option Addr} {N : Nat} {ls : Nat → Lay} (h : RdL n₀ w A N ls) (hb : Below n₀ w W) : RdL n₀ W A N ls := fun i hi => by
 obtain ⟨ad, h1, h2, h3, h4, h5⟩ := h i hi
 have hbl := add_block ad (i * 3)
 exact ⟨ad, h1, h2, (hb.cell (by rw [hbl]; exact h2)).trans h3, (hb.cell (by rw [hbl]; exact h2)).trans h4, (hb.cell (by rw [hbl]; exact h2)).trans h5⟩
structure Box1 (T X : Nat) (w w' : World) : Prop where
 mv : Mv (fun k => X ≤ k) w w'
 box : ∀ g c, X ≤ g → w.heap[g]? = some (.cells #[c] T (0, 0)) → ∃ c', w'.heap[g]? = some (.cells #[c'] T (0, 0))
theorem Box1.refl (T X : Nat) (w : World) : Box1 T X w w := ⟨Mv.refl _ _, fun _ c _ h => ⟨c, h⟩⟩
theorem Box1.at {T X : Nat} {A B : World} (h : Box1 T X A B) {k : Nat} {o : Obj} (hk : A.heap[k]? = some o) (hX : k < X) : B.heap[k]? = some o := h.mv.at hk (Nat.not_le.2 hX)
theorem Box1.trans {T X : Nat} {A B C : World} (h : Box1 T X A B) (k : Box1 T X B C) : Box1 T X A C :=
 ⟨h.mv.trans k.mv, fun g c hg hc => by obtain ⟨c', h'⟩ := h.box g c hg hc; exact k.box g c' hg h'⟩
theorem Box1.of_below {T X : Nat} {A B : World} (h : Below A.heap.size A B) : Box1 T X A B :=
 ⟨Mv.zb2 h _, fun g c _ hc => ⟨c, (h.block g (zai hc)).trans hc⟩⟩
def lt (ls : Nat → Lay) (i : Int) : Letter := ((ls i.toNat).1, (ls i.toNat).2.1)
abbrev ESt := Bool × List (Letter × Int × Nat) × List Bool
def estep (ls : Nat → Lay) (f : Int) (st : ESt) (i : Int) : ESt :=
 if (st.1 || i == f) = true then
  match zbw keq (lt ls i) st.2.1 0 with
  | some _ => (true, st.2.1, st.2.2)
  | none => (true, st.2.1 ++ [(lt ls i, i, st.2.1.length)], st.2.2.set i.toNat true)
 else (false, st.2.1, st.2.2)
def each (ls : Nat → Lay) (f : Int) (pre : List Int) (ms : List Bool) : ESt := pre.foldl (estep ls f) (false, [], ms)
theorem ziO (ls : Nat → Lay) (f : Int) (st : ESt) (i : Int) : (estep ls f st i).2.2.length = st.2.2.length := by
 unfold estep
 split
 ·
  split <;> simp
 ·
  rfl
theorem zeV (ls : Nat → Lay) (f : Int) : ∀ (pre : List Int) (st : ESt), (pre.foldl (estep ls f) st).2.2.length = st.2.2.length
 | [], _ => rfl
 | x :: r, st => by rw [List.foldl_cons, zeV ls f r, ziO]
theorem zhq {N : Nat} {back : Bool} {x : Int} (h : x ∈ idxs N back) : ∃ k : Nat, k < N ∧ x = k := by
 unfold idxs at h
 obtain ⟨i, hi, rfl⟩ := List.mem_map.1 h
 have hi := List.mem_range.1 hi
 cases back
 ·
  exact ⟨i, hi, by simp [idx]⟩
 ·
  exact ⟨N - 1 - i, by omega, by simp [idx]; omega⟩
structure EI (ls : Nat → Lay) (f : Int) (ms : List Bool) (W0 : World) (Bl Bk Bm : Nat) (vl vk : Value) (pre : List Int) (O : Nat → Prop) (W : World) : Prop where
 fr : Mine W0.heap.size (.cells #[.int .i64 f] 3 (0, 0)) O W
 mp : Mine (W0.heap.size + 1) (zbR kenc venc (each ls f pre ms).2.1 (each ls f pre ms).2.1.length) O W
 sb : Mine (W0.heap.size + 2) (.cells #[.map (some (W0.heap.size + 1))] 123 (0, 0)) O W
 bg : Mine (W0.heap.size + 3) (.cells #[.bool (each ls f pre ms).1] 4 (0, 0)) O W
 row : Mine Bm (.cells ((each ls f pre ms).2.2.map Value.bool).toArray 100 (0, 0)) O W
 bl : Mine Bl (.cells #[vl] 25 (0, 0)) O W
 bk : Mine Bk (.cells #[vk] 97 (0, 0)) O W
 mv : Mv (fun k => k = Bm) W0 W
 own : ∀ k, O k → W0.heap.size ≤ k
theorem EI.stable (ls : Nat → Lay) (f : Int) (ms : List Bool) (W0 : World) (Bl Bk Bm : Nat) (vl vk : Value) : Stable (EI ls f ms W0 Bl Bk Bm vl vk) := fun s O O' W W' h hm h1 h2 => by
 have hst : ∀ {b : Nat} {o : Obj}, Mine b o O W → Mine b o O' W' := fun hb => Mine.stable (β := Unit) (fun _ => _) (fun _ => _) () O O' W W' hb hm h1 h2
 refine ⟨hst h.fr, hst h.mp, hst h.sb, hst h.bg, hst h.row, hst h.bl, hst h.bk, ?_, fun k hk => (h2 k hk).elim (h.own k) (fun x => by have := h.mv.size; omega)⟩
 exact ⟨hm.os.trans h.mv.os, hm.tape.trans h.mv.tape, hm.output.trans h.mv.output, Nat.le_trans h.mv.size hm.size, fun k hk hno => (hm.block k (Nat.lt_of_lt_of_le hk h.mv.size) (fun e => by have := h.own k e; omega)).trans (h.mv.block k hk hno)⟩
theorem EI.of {ls : Nat → Lay} {f : Int} {ms : List Bool} {W0 : World} {Bl Bk Bm : Nat} {vl vk : Value} {pre : List Int} {O : Nat → Prop} {W : World} {b : Bool} {L : List (Letter × Int × Nat)} {m : List Bool} (h : each ls f pre ms = (b, L, m))
  (fr : Mine W0.heap.size (.cells #[.int .i64 f] 3 (0, 0)) O W) (mp : Mine (W0.heap.size + 1) (zbR kenc venc L L.length) O W) (sb : Mine (W0.heap.size + 2) (.cells #[.map (some (W0.heap.size + 1))] 123 (0, 0)) O W)
  (bg : Mine (W0.heap.size + 3) (.cells #[.bool b] 4 (0, 0)) O W) (row : Mine Bm (.cells (m.map Value.bool).toArray 100 (0, 0)) O W) (bl : Mine Bl (.cells #[vl] 25 (0, 0)) O W) (bk : Mine Bk (.cells #[vk] 97 (0, 0)) O W)
  (mv : Mv (fun k => k = Bm) W0 W) (own : ∀ k, O k → W0.heap.size ≤ k) : EI ls f ms W0 Bl Bk Bm vl vk pre O W := by
 refine ⟨fr, ?_, sb, ?_, ?_, bl, bk, mv, own⟩
 ·
  rw [h]; exact mp
 ·
  rw [h]; exact bg
 ·
  rw [h]; exact row
theorem zh7 (n₀ N c : Nat) (hN : N ≤ 4611686018427387904) (A : Option Addr) (ls : Nat → Lay) (back : Bool) (f : Int) (ms : List Bool) (hms : ms.length = N) (W0 : World) (Bl Bb Bk Bm : Nat) (cm : Nat) (hl : RdL n₀ W0 A N ls) (hn₀ : n₀ ≤ Bm) (hd1 : Bl ≠ Bm) (hd2 : Bb ≠ Bm) (hd3 : Bk ≠ Bm)
  (hBl : W0.heap[Bl]? = some (.cells #[.slice A N c] 25 (0, 0))) (hBb : W0.heap[Bb]? = some (.cells #[.bool back] 4 (0, 0)))
  (hBk : W0.heap[Bk]? = some (.cells #[.slice (some ⟨Bm, 0, none⟩) N cm] 97 (0, 0))) (hBm : W0.heap[Bm]? = some (.cells (ms.map Value.bool).toArray 100 (0, 0))) :
  Calls Try.prog 73 #[.int .i64 f, .pointer (some ⟨Bl, 0, none⟩), .pointer (some ⟨Bb, 0, none⟩), .pointer (some ⟨Bk, 0, none⟩)] W0 fun e W' =>
   e = .returned (.tuple #[]) ∧ Mv (fun k => k = Bm) W0 W' ∧ W'.heap[Bm]? = some (.cells ((each ls f (idxs N back) ms).2.2.map Value.bool).toArray 100 (0, 0)) := by
 refine (callsIn_wide (n := 5)).1 ?_
 refine callsIn_of_wp_marks Try.func73 rfl trivial ?_ rfl
 simp only [Try.ntmps73, List.size_toArray, List.length_cons, List.length_nil, Nat.reduceAdd, Nat.reduceSub, Array.replicate_succ, Array.replicate_zero, List.push_toArray, List.append_toArray, List.nil_append, List.cons_append]
 have hmm := @run_makeMap Try.prog
 have hc1 := zad hBl 0
 have hc2 := zad hBb 0
 simp only [List.getElem?_toArray, List.getElem?_cons_zero] at hc1 hc2
 have hlt1 := zai hBl
 have hlt2 := zai hBb
 have hlt3 := zai hBk
 have hlt4 := zai hBm
 have hf1 := zad (zal (zal (zal (zal hBl (.cells #[.int .i64 f] 3)) (.map #[] 0)) (.cells #[.map (some (W0.heap.size + 1))] 123)) (.cells #[.bool false] 4)) 0
 have hf2 := zad (zal (zal (zal (zal hBb (.cells #[.int .i64 f] 3)) (.map #[] 0)) (.cells #[.map (some (W0.heap.size + 1))] 123)) (.cells #[.bool false] 4)) 0
 simp only [List.getElem?_toArray, List.getElem?_cons_zero] at hf1 hf2
 gi_wp2_with (refine ⟨trivial, ?_⟩; gi_at_call 71; refine ((callsIn_wide (n := 4)).2 (zfc _ _ _)).mono ?_; rintro e w' ⟨rfl, rfl⟩)
 clear hf1 hf2 hc1 hc2
 try simp only [World.size_alloc]
 obtain ⟨W1, hW1⟩ : ∃ W1 : World, W1 = ((((((W0.alloc (.cells #[.int .i64 f] 3)).alloc (.map #[] 0)).alloc (.cells #[.map (some (W0.heap.size + 1))] 123)).alloc (.cells #[.bool false] 4)).alloc (.cells #[.int .i64 (N : Int)] 3)).alloc (.cells #[.bool back] 4)) := ⟨_, rfl⟩
 rw [← hW1]
 have hsz : W1.heap.size = W0.heap.size + 6 := by rw [hW1]; simp
 have hmv : Mv (fun _ => False) W0 W1 := by rw [hW1]; exact ((((((Mv.refl _ _).alloc _).alloc _).alloc _).alloc _).alloc _).alloc _
 have b0 : W1.heap[W0.heap.size]? = some (.cells #[.int .i64 f] 3 (0, 0)) := by rw [hW1]; exact zal (zal (zal (zal (zal (at_new _ _ rfl) _) _) _) _) _
 have b1 : W1.heap[W0.heap.size + 1]? = some (.map #[] 0) := by rw [hW1]; exact zal (zal (zal (zal (at_new _ _ s9) _) _) _) _
 have b2 : W1.heap[W0.heap.size + 2]? = some (.cells #[.map (some (W0.heap.size + 1))] 123 (0, 0)) := by rw [hW1]; exact zal (zal (zal (at_new _ _ s9) _) _) _
 have b3 : W1.heap[W0.heap.size + 3]? = some (.cells #[.bool false] 4 (0, 0)) := by rw [hW1]; exact zal (zal (at_new _ _ s9) _) _
 have b4 : W1.heap[W0.heap.size + 4]? = some (.cells #[.int .i64 (N : Int)] 3 (0, 0)) := by rw [hW1]; exact zal (at_new _ _ s9) _
 have b5 : W1.heap[W0.heap.size + 5]? = some (.cells #[.bool back] 4 (0, 0)) := by rw [hW1]; exact at_new _ _ s9
 clear hW1
 refine zfS (n := 5) rfl o9 82 #[.pointer (some ⟨W0.heap.size + 4, 0, none⟩), .pointer (some ⟨W0.heap.size + 5, 0, none⟩)] rfl trivial (zc2 Try.func82 k9 rfl)
  (fun i : Int => #[.int .i64 i]) (fun _ => rfl) (fun k => k = W0.heap.size + 4 ∨ k = W0.heap.size + 5) (fun _ => False) (fun k hk => by rcases hk with rfl | rfl <;> omega) (fun _ h => h.elim)
  (zfp 4 o9 N hN back _ _ W1 b4 b5) (EI ls f ms W0 Bl Bk Bm (.slice A N c) (.slice (some ⟨Bm, 0, none⟩) N cm)) (fun _ _ _ _ => False) (EI.stable ls f ms W0 Bl Bk Bm _ _) (fun _ _ _ _ _ _ h _ _ _ => h.elim) ?_
  (fun x => { tmps := #[.int .i64 f, .pointer (some ⟨Bl, 0, none⟩), .pointer (some ⟨Bb, 0, none⟩), .pointer (some ⟨Bk, 0, none⟩), .pointer (some ⟨W0.heap.size, 0, none⟩), .pointer (some ⟨W0.heap.size + 1 + 1, 0, none⟩), .pointer (some ⟨W0.heap.size + 1 + 1 + 1, 0, none⟩), .int .i64 x, undef, undef, .map (some (W0.heap.size + 1)), .slice A N c, .int .i64 (N : Int), .bool back, .func (.func 82) #[] #[.pointer (some ⟨W0.heap.size + 4, 0, none⟩), .pointer (some ⟨W0.heap.size + 5, 0, none⟩)], .int .i64 x,
   undef, undef, undef, undef, undef, undef, undef, undef, undef, undef, undef, undef, undef, undef, undef, undef, undef, undef, undef, undef, undef, undef, undef, undef, undef, undef, undef, undef, undef, undef, undef, undef], defers := [] }) ?assign ?body ?done (fun _ _ _ _ _ _ _ _ h _ => h.elim)
 ·
  intro O hO W hW
  have hno : ∀ k, k < W0.heap.size + 4 → ¬ O k := fun k hk e => by rcases hO k e with (h | h) | h <;> omega
  have go : ∀ {b : Nat} {o : Obj}, W1.heap[b]? = some o → b < W0.heap.size + 4 → Mine b o O W := fun h hlt => ⟨hW.at h (fun h => h), hno _ hlt⟩
  have up : ∀ {b : Nat} {o : Obj}, W0.heap[b]? = some o → Mine b o O W := fun h => go (hmv.at h (fun h => h)) (by have := zai h; omega)
  exact ⟨go b0 o9, go b1 o9, go b2 o9, go b3 o9, up hBm, up hBl, up hBk, (hmv.trans hW).mono (fun _ _ h => h.elim), fun k hk => by rcases hO k hk with (h | h) | h <;> omega⟩
 case assign =>
  intro l x W K hK
  gi_wp2
  exact hK
 case body =>
  intro l pre x O W hI hpre hOl hOlp hrec hOO hsz2
  have hst : each ls f (pre ++ [x]) ms = estep ls f (each ls f pre ms) x := by simp [each]
  have hlen : (each ls f pre ms).2.2.length = N := by unfold each; rw [zeV]; exact hms
  obtain ⟨xi, hxi, rfl⟩ : ∃ xi : Nat, xi < N ∧ x = xi := zhq (N := N) (back := back) (hpre.subset s9)
  obtain ⟨fr, mp, sb, bg, row, bl, bk, mv, own⟩ := hI
  obtain ⟨st, hstE⟩ : ∃ st, st = each ls f pre ms := ⟨_, rfl⟩
  rw [← hstE] at mp bg row hst hlen
  obtain ⟨b, L, m⟩ := st
  simp only at mp bg row hlen
  have hlW : RdL n₀ W A N ls := hl.below (mv.below o9 (fun k e => by omega))
  obtain ⟨ad, rfl, hadlt, hx0, hx1, hx2⟩ := hlW xi hxi
  have c4 := zad fr.1 0
  have c5 := zad sb.1 0
  have c6 := zad bg.1 0
  have f6 := free_at bg.1 0
  have cl := zad bl.1 0
  have ck := zad bk.1 0
  simp only [List.getElem?_toArray, List.getElem?_cons_zero] at c4 c5 c6 cl ck
  have HST := zaa.mk hst
  have HE := zaa.mk hstE
  have FR := zaa.mk fr
  have MP := zaa.mk mp
  have SB := zaa.mk sb
  have BG := zaa.mk bg
  have ROW := zaa.mk row
  have BL := zaa.mk bl
  have BK := zaa.mk bk
  have MV := zaa.mk mv
  have OWN := zaa.mk own
  have HL := zaa.mk hlW
  have HOL := zaa.mk hOl
  have HLEN := zaa.mk hlen
  have HLT := zaa.mk (And.intro hlt1 (And.intro hlt2 (And.intro hlt3 hlt4)))
  clear hst hstE fr mp sb bg row bl bk mv own hlW hOl hlen hl hBl hBb hBk hBm b0 b1 b2 b3 b4 b5 hmv hrec hOO hmm hlt1 hlt2 hlt3 hlt4 hms
  have h03 : W0.heap.size + 1 + 1 + 1 = W0.heap.size + 3 := rfl
  have H03 := zaa.mk h03
  clear h03
  cases b
  ·
   cases hxf : ((xi : Int) == f)
   ·
    gi_wp2
    obtain ⟨q1, q2, q3, q4⟩ := HLT.out
    have hs : each ls f (pre ++ [(xi : Int)]) ms = (false, L, m) := by rw [HST.out]; simp [estep, hxf]
    refine ⟨(Mv.refl _ _).setCell (.inl BG.out.2) _, ?_⟩
    exact EI.of hs (FR.out.set (by simp <;> omega) _) (MP.out.set (by simp <;> omega) _) (SB.out.set (by simp <;> omega) _) (BG.out.one _) (ROW.out.set (by simp <;> omega) _) (BL.out.set (by simp <;> omega) _) (BK.out.set (by simp <;> omega) _) (MV.out.setCell (.inr (by simp <;> omega)) _) OWN.out
   ·
    clear c5 cl ck
    gi_wp2
    have HXF := zaa.mk hxf
    clear hxf
    obtain ⟨q1, q2, q3, q4⟩ := HLT.out
    obtain ⟨W2, hW2⟩ : ∃ W2 : World, W2 = W.setCell ⟨W0.heap.size + 1 + 1 + 1, 0, none⟩ (.bool true) := ⟨_, rfl⟩
    rw [← hW2]
    have fr2 := zaa.mk (show Mine _ _ O W2 by rw [hW2]; exact FR.out.set (by simp <;> omega) _)
    have mp2 := zaa.mk (show Mine _ _ O W2 by rw [hW2]; exact MP.out.set (by simp <;> omega) _)
    have sb2 := zaa.mk (show Mine _ _ O W2 by rw [hW2]; exact SB.out.set (by simp <;> omega) _)
    have bg2 := zaa.mk (show Mine _ (.cells #[.bool true] 4 (0, 0)) O W2 by rw [hW2]; exact BG.out.one _)
    have row2 := zaa.mk (show Mine _ _ O W2 by rw [hW2]; exact ROW.out.set (by simp <;> omega) _)
    have bl2 := zaa.mk (show Mine _ _ O W2 by rw [hW2]; exact BL.out.set (by simp <;> omega) _)
    have bk2 := zaa.mk (show Mine _ _ O W2 by rw [hW2]; exact BK.out.set (by simp <;> omega) _)
    have mv2 := zaa.mk (show Mv _ W0 W2 by rw [hW2]; exact MV.out.setCell (.inr (by simp <;> omega)) _)
    have HL2 := zaa.mk (show RdL n₀ W2.drew (some ad) N ls from HL.out.below (by rw [hW2]; exact ((Below.refl n₀ W).setCell (p := ⟨W0.heap.size + 1 + 1 + 1, 0, none⟩) (by simp <;> omega) _).drew))
    have HN := zaa.mk (show n₀ ≤ W2.drew.heap.size by have := MV.out.size; rw [hW2]; simp [World.setCell]; omega)
    have mvW := zaa.mk (show Mv (fun k => ¬ O k) W W2 by rw [hW2]; exact (Mv.refl _ _).setCell (.inl BG.out.2) _)
    clear hW2 FR MP SB BG ROW BL BK MV c4 c6 f6 hx0 hx1 hx2
    clear q1 q2 q3 q4
    have hX : ∀ {k : Nat} {o : Obj}, W2.heap[k]? = some o → k < W2.drew.heap.size := fun h => zai h
    have HX := zaa.mk @hX
    clear hX
    rcases hfi : zbw keq (lt ls xi) L 0 with _ | ⟨fi, fv⟩
    ·
     have HFI := zaa.mk hfi
     clear hfi
     refine zbU (N := 48) 12 (Box1 128 W2.drew.heap.size) k9 k9 k9 (fun _ _ h => h) rfl (Box1.refl _ _) (Box1.trans) ?_
     rw [show List.range 12 = [0, 1, 2, 3, 4, 5, 6, 7, 8, 9, 10, 11] from rfl]
     refine zaF (.map (some (W0.heap.size + 1))) (Box1.refl _ _) rfl (fun _ _ _ _ => zae rfl) ?_ ?_
     ·
      intro a w' hr hs
      have h5 := hs.out 5 k9
      have hc := zad (hr.at sb2.out.1 (HX.out sb2.out.1)) 0
      go_simp
     refine zaF (.slice (some ad) N c) (Box1.refl _ _) rfl (fun _ _ _ _ => zae rfl) ?_ ?_
     ·
      intro a w' hr hs
      have h5 := hs.out 1 k9
      have hc := zad (hr.at bl2.out.1 (HX.out bl2.out.1)) 0
      go_simp
     refine zaF (.int .i64 xi) (Box1.refl _ _) rfl (fun _ _ _ _ => zae rfl) ?_ ?_
     ·
      intro a w' hr hs
      have h5 := hs.out 7 k9
      go_simp
     refine zaF (.pointer (some (ad.add (xi * 3)))) (Box1.refl _ _) rfl (fun _ _ _ _ => zae rfl) ?_ ?_
     ·
      intro a w' hr hs
      have h5 := hs.get 1 rfl k9 rfl
      have h6 := hs.get 0 rfl k9 rfl
      simp only at h5 h6
      go_simp
     refine zaF (.agg #[.bool (ls xi).1, .string (ls xi).2.1, .int .i64 (ls xi).2.2]) (Box1.refl _ _) rfl (fun _ _ _ _ => zae rfl) ?_ ?_
     ·
      intro a w' hr hs
      have h5 := hs.get 0 rfl k9 rfl
      simp only at h5
      have hu := Try.underlying35
      obtain ⟨ad', e1, _, x0, x1, x2⟩ := (HL2.out.below (hr.mv.below HN.out (fun k h => Nat.le_trans HN.out h))) xi hxi
      cases e1
      go_simp
     refine zbc (fun v _ => v = kenc (lt ls xi)) (fun _ _ _ _ h => h) rfl rfl Try.func72 k9 rfl (fun _ _ _ _ => zae rfl) ?_ ?_
     ·
      intro a w' hr hs
      have h5 := hs.get 0 rfl k9 rfl
      simp only at h5
      have h6 : (#[Operand.tmp 29] : Array Operand).map a.eval = #[.agg #[.bool (ls xi).1, .string (ls xi).2.1, .int .i64 (ls xi).2.2]] := by simp [Act.eval, h5]
      rw [h6]
      refine (zcy _ _ _ _).mono ?_
      rintro e w2 ⟨rfl, hb⟩
      exact ⟨_, rfl, Box1.of_below hb, rfl⟩
     refine zaF ((.tuple #[(venc 0), .bool false])) (Box1.refl _ _) rfl (fun _ _ _ _ => zae rfl) ?_ ?_
     ·
      intro a w' hr hs
      have h5 := hs.get 5 rfl k9 rfl
      have h6 := hs.get 0 rfl k9 rfl
      simp only at h5 h6
      have hlk := zcs (T := 123) zca Try.underlying123 zbE (hr.at mp2.out.1 (HX.out mp2.out.1)) (lt ls xi)
      rw [HFI.out] at hlk
      simp only at hlk
      go_simp
     refine zaF ((.tuple #[(venc 0), .bool false])) (Box1.refl _ _) rfl (fun _ _ _ _ => zae rfl) ?_ ?_
     ·
      intro a w' hr hs
      have h5 := hs.get 0 rfl k9 rfl
      simp only at h5
      go_simp
     refine zaF ((venc 0)) (Box1.refl _ _) rfl (fun _ _ _ _ => zae rfl) ?_ ?_
     ·
      intro a w' hr hs
      have h5 := hs.get 0 rfl k9 rfl
      simp only at h5
      go_simp
     refine zaF (.bool false) (Box1.refl _ _) rfl (fun _ _ _ _ => zae rfl) ?_ ?_
     ·
      intro a w' hr hs
      have h5 := hs.get 1 rfl k9 rfl
      simp only at h5
      go_simp
     refine ze2 (fun v w => ∃ g, v = .pointer (some ⟨g, 0, none⟩) ∧ W2.drew.heap.size ≤ g ∧ ∃ c, w.heap[g]? = some (.cells #[c] 128 (0, 0))) (fun v w w' hr h => by obtain ⟨g, h1, h2, c, h3⟩ := h; exact ⟨g, h1, h2, hr.box g c h2 h3⟩) rfl (fun _ _ _ _ => zae rfl) ?_ ?_
     ·
      intro a w' hr hs
      refine ⟨.pointer (some ⟨w'.heap.size, 0, none⟩), w'.alloc (.cells #[.int .i64 0] 128), ?_, ⟨(Mv.refl _ _).alloc _, fun g c _ h => ⟨c, zal h _⟩⟩, ⟨_, rfl, hr.mv.size, _, at_new _ _ rfl⟩⟩
      have hz := zbE
      unfold venc at hz
      go_simp
     refine zdu (fun _ => True) (fun _ _ _ _ => trivial) rfl (fun _ _ _ _ => zae rfl) ?_ ?_
     ·
      intro a w' hr hs
      obtain ⟨g, h1, h2, c, h3⟩ := hs.get 0 rfl k9 rfl
      have h4 := hs.get 2 rfl k9 rfl
      simp only at h1 h4
      have hc := zad h3 0
      have hf := free_at h3 0
      have hu := Try.underlying128
      refine ⟨w'.setCell ⟨g, 0, none⟩ (.int .i64 0), ?_, ⟨(Mv.refl _ _).setCell (.inl h2) _, fun g' c' hg' h' => ?_⟩, trivial⟩
      ·
       unfold venc at h4
       go_simp
      ·
       by_cases hgg : g' = g
       ·
        subst hgg; exact ⟨_, by simpa using zcK h' 0 _⟩
       ·
        exact ⟨c', at_set h' hgg _⟩
     intro vs w3 hr hE
     rw [show List.range 12 = [0, 1, 2, 3, 4, 5, 6, 7, 8, 9, 10, 11] from rfl]
     simp only [List.mem_cons, List.not_mem_nil, or_false, forall_eq_or_imp, forall_eq] at hE
     obtain ⟨_, ⟨gx, hg1, hg2, _⟩, g9, g8, g7, g6, g5, g4, g3, g2, g1, g0⟩ := hE
     simp only [putL, zaU, List.getElem?_toArray, List.getElem?_cons_succ, List.getElem?_cons_zero, Option.bind_some, Act.put, List.setIfInBounds_toArray, List.set_cons_succ, List.set_cons_zero, hg1, g9, g8, g7, g6, g5, g4, g3, g2, g1, g0]
     refine zc4 (i := 12) (r := []) (w' := w3) (.bool false) rfl (zae rfl) q9 (zaX ?_)
     clear hg1 g9 g8 g7 g6 g5 g4 g3 g2 g1 g0
     simp only [Act.put, List.setIfInBounds_toArray, List.set_cons_succ, List.set_cons_zero]
     have hXX : ∀ {k : Nat} {o : Obj}, Mine k o O W2 → Mine k o O w3 := fun h => ⟨hr.at h.1 (HX.out h.1), h.2⟩
     have mv3 := zaa.mk (mv2.out.drew.trans (hr.mv.mono (fun k h1 h2 => absurd h1 (Nat.not_lt.2 h2))))
     have mvW3 := zaa.mk (mvW.out.drew.trans (hr.mv.mono (fun k h1 h2 => absurd h1 (Nat.not_lt.2 h2))))
     have fr3 := zaa.mk (hXX fr2.out)
     have mp3 := zaa.mk (hXX mp2.out)
     have sb3 := zaa.mk (hXX sb2.out)
     have bg3 := zaa.mk (hXX bg2.out)
     have row3 := zaa.mk (hXX row2.out)
     have bl3 := zaa.mk (hXX bl2.out)
     have bk3 := zaa.mk (hXX bk2.out)
     have HL3 := zaa.mk ((HL2.out.below (hr.mv.below HN.out (fun k h => Nat.le_trans HN.out h))).below ((Below.refl n₀ w3).drew))
     have HN3 := zaa.mk (Nat.le_trans HN.out hr.mv.size)
     clear hXX hr
     gi_wp2
     refine zbU (N := 48) 8 (Box1 128 w3.drew.heap.size) k9 k9 k9 (fun _ _ h => h) rfl (Box1.refl _ _) (Box1.trans) ?_
     rw [show List.range 8 = [0, 1, 2, 3, 4, 5, 6, 7] from rfl]
     refine zaF (.map (some (W0.heap.size + 1))) (Box1.refl _ _) rfl (fun _ _ _ _ => zae rfl) ?_ ?_
     ·
      intro a w' hr hs
      have h5 := hs.out 5 k9
      have hc := zad (hr.at sb3.out.1 (zai sb3.out.1)) 0
      go_simp
     refine zaF (.slice (some ad) N c) (Box1.refl _ _) rfl (fun _ _ _ _ => zae rfl) ?_ ?_
     ·
      intro a w' hr hs
      have h5 := hs.out 1 k9
      have hc := zad (hr.at bl3.out.1 (zai bl3.out.1)) 0
      go_simp
     refine zaF (.int .i64 xi) (Box1.refl _ _) rfl (fun _ _ _ _ => zae rfl) ?_ ?_
     ·
      intro a w' hr hs
      have h5 := hs.out 7 k9
      go_simp
     refine zaF (.pointer (some (ad.add (xi * 3)))) (Box1.refl _ _) rfl (fun _ _ _ _ => zae rfl) ?_ ?_
     ·
      intro a w' hr hs
      have h5 := hs.get 1 rfl k9 rfl
      have h6 := hs.get 0 rfl k9 rfl
      simp only at h5 h6
      go_simp
     refine zaF (.agg #[.bool (ls xi).1, .string (ls xi).2.1, .int .i64 (ls xi).2.2]) (Box1.refl _ _) rfl (fun _ _ _ _ => zae rfl) ?_ ?_
     ·
      intro a w' hr hs
      have h5 := hs.get 0 rfl k9 rfl
      simp only at h5
      have hu := Try.underlying35
      obtain ⟨ad', e1, _, x0, x1, x2⟩ := (HL3.out.below (hr.mv.below HN3.out (fun k h => Nat.le_trans HN3.out h))) xi hxi
      cases e1
      go_simp
     refine zbc (fun v _ => v = kenc (lt ls xi)) (fun _ _ _ _ h => h) rfl rfl Try.func72 k9 rfl (fun _ _ _ _ => zae rfl) ?_ ?_
     ·
      intro a w' hr hs
      have h5 := hs.get 0 rfl k9 rfl
      simp only at h5
      have h6 : (#[Operand.tmp 40] : Array Operand).map a.eval = #[.agg #[.bool (ls xi).1, .string (ls xi).2.1, .int .i64 (ls xi).2.2]] := by simp [Act.eval, h5]
      rw [h6]
      refine (zcy _ _ _ _).mono ?_
      rintro e w2 ⟨rfl, hb⟩
      exact ⟨_, rfl, Box1.of_below hb, rfl⟩
     refine zaF (.int .i64 xi) (Box1.refl _ _) rfl (fun _ _ _ _ => zae rfl) ?_ ?_
     ·
      intro a w' hr hs
      have h5 := hs.out 7 k9
      go_simp
     refine zaF (venc xi) (Box1.refl _ _) rfl (fun _ _ _ _ => zae rfl) ?_ ?_
     ·
      intro a w' hr hs
      have h5 := hs.get 0 rfl k9 rfl
      simp only at h5
      have hu := Try.underlying128
      unfold venc
      go_simp
     intro vs w4 hr hE
     rw [show List.range 8 = [0, 1, 2, 3, 4, 5, 6, 7] from rfl]
     simp only [List.mem_cons, List.not_mem_nil, or_false, forall_eq_or_imp, forall_eq] at hE
     obtain ⟨g7, g6, g5, g4, g3, g2, g1, g0⟩ := hE
     simp only [putL, zaU, List.getElem?_toArray, List.getElem?_cons_succ, List.getElem?_cons_zero, Option.bind_some, Act.put, List.setIfInBounds_toArray, List.set_cons_succ, List.set_cons_zero, g7, g6, g5, g4, g3, g2, g1, g0]
     clear g7 g6 g5 g4 g3 g2 g1 g0
     have hXX : ∀ {k : Nat} {o : Obj}, Mine k o O w3 → Mine k o O w4 := fun h => ⟨hr.at h.1 (zai h.1), h.2⟩
     have hup := zdk (P := Try.prog) (T := 123) zca Try.underlying123 (hXX mp3.out).1 (lt ls xi) (xi : Int)
     obtain ⟨w5, hw5⟩ : ∃ w5 : World, w5 = w4.putObj (W0.heap.size + 1) (zbR kenc venc (upd keq (lt ls xi) (xi : Int) L.length L).1 (upd keq (lt ls xi) (xi : Int) L.length L).2) := ⟨_, rfl⟩
     rw [← hw5] at hup
     have hUP := hup
     refine zcQ (i := 8) (r := []) (w' := w5) rfl (zae rfl) q9 (zaX ?_)
     obtain ⟨q1, q2, q3, q4⟩ := HLT.out
     have mv4 := zaa.mk (show Mv _ W0 w5 by rw [hw5]; exact (mv3.out.drew.trans (hr.mv.mono (fun k h1 h2 => absurd h1 (Nat.not_lt.2 h2)))).putObj (.inr o9) _)
     have mvW4 := zaa.mk (show Mv (fun k => ¬ O k) W w5 by rw [hw5]; exact (mvW3.out.drew.trans (hr.mv.mono (fun k h1 h2 => absurd h1 (Nat.not_lt.2 h2)))).putObj (.inl mp3.out.2) _)
     have fr4 := zaa.mk (show Mine _ _ O w5 by rw [hw5]; exact (hXX fr3.out).put o9 _)
     have mp4 := zaa.mk (show Mine _ _ O w5 by rw [hw5]; exact ⟨World.putObj_heap_same (zai (hXX mp3.out).1), mp3.out.2⟩)
     have sb4 := zaa.mk (show Mine _ _ O w5 by rw [hw5]; exact (hXX sb3.out).put o9 _)
     have bg4 := zaa.mk (show Mine _ _ O w5 by rw [hw5]; exact (hXX bg3.out).put o9 _)
     have row4 := zaa.mk (show Mine _ _ O w5 by rw [hw5]; exact (hXX row3.out).put o9 _)
     have bl4 := zaa.mk (show Mine _ _ O w5 by rw [hw5]; exact (hXX bl3.out).put o9 _)
     have bk4 := zaa.mk (show Mine _ _ O w5 by rw [hw5]; exact (hXX bk3.out).put o9 _)
     clear hXX hr hup hUP hw5 q1 q2 q3 q4
     have hck := zad bk4.out.1 0
     have hcm := zad row4.out.1 xi
     have hfm := free_at row4.out.1 xi
     have hmx : (m.map Value.bool).toArray[xi]? = some (.bool (m.getD xi false)) := by simp [List.getElem?_map, HLEN.out, hxi]
     rw [hmx] at hcm
     clear hmx
     simp only [List.getElem?_toArray, List.getElem?_cons_zero] at hck
     simp only [Act.put, List.setIfInBounds_toArray, List.set_cons_succ, List.set_cons_zero]
     gi_wp2
     obtain ⟨q1, q2, q3, q4⟩ := HLT.out
     have hs : each ls f (pre ++ [(xi : Int)]) ms = (true, L ++ [(lt ls xi, (xi : Int), L.length)], m.set xi true) := by rw [HST.out]; simp [estep, HFI.out, HXF.out]
     have hupd : upd keq (lt ls xi) (xi : Int) L.length L = (L ++ [(lt ls xi, (xi : Int), L.length)], L.length + 1) := by simp [upd, HFI.out]
     have mp5 : Mine (W0.heap.size + 1) (zbR kenc venc (L ++ [(lt ls xi, (xi : Int), L.length)]) (L ++ [(lt ls xi, (xi : Int), L.length)]).length) O w5 := by
      have := mp4.out
      rw [hupd] at this
      simpa using this
     refine ⟨(mvW4.out.setCell (.inl row4.out.2) _).mono (fun k _ h => by simpa using h), EI.of hs (fr4.out.set (by simp <;> omega) _) (mp5.set (by simp <;> omega) _) (sb4.out.set (by simp <;> omega) _) (bg4.out.set (by simp <;> omega) _) ⟨?_, row4.out.2⟩ (bl4.out.set (by simp <;> omega) _) (bk4.out.set (by simp <;> omega) _) (mv4.out.setCell (.inl rfl) _) OWN.out⟩
     have := zcK row4.out.1 xi (.bool true)
     rw [this]
     congr 2
     simp [List.map_set]
    ·
     have HFI := zaa.mk hfi
     clear hfi
     refine zbU (N := 48) 12 (Box1 128 W2.drew.heap.size) k9 k9 k9 (fun _ _ h => h) rfl (Box1.refl _ _) (Box1.trans) ?_
     rw [show List.range 12 = [0, 1, 2, 3, 4, 5, 6, 7, 8, 9, 10, 11] from rfl]
     refine zaF (.map (some (W0.heap.size + 1))) (Box1.refl _ _) rfl (fun _ _ _ _ => zae rfl) ?_ ?_
     ·
      intro a w' hr hs
      have h5 := hs.out 5 k9
      have hc := zad (hr.at sb2.out.1 (HX.out sb2.out.1)) 0
      go_simp
     refine zaF (.slice (some ad) N c) (Box1.refl _ _) rfl (fun _ _ _ _ => zae rfl) ?_ ?_
     ·
      intro a w' hr hs
      have h5 := hs.out 1 k9
      have hc := zad (hr.at bl2.out.1 (HX.out bl2.out.1)) 0
      go_simp
     refine zaF (.int .i64 xi) (Box1.refl _ _) rfl (fun _ _ _ _ => zae rfl) ?_ ?_
     ·
      intro a w' hr hs
      have h5 := hs.out 7 k9
      go_simp
     refine zaF (.pointer (some (ad.add (xi * 3)))) (Box1.refl _ _) rfl (fun _ _ _ _ => zae rfl) ?_ ?_
     ·
      intro a w' hr hs
      have h5 := hs.get 1 rfl k9 rfl
      have h6 := hs.get 0 rfl k9 rfl
      simp only at h5 h6
      go_simp
     refine zaF (.agg #[.bool (ls xi).1, .string (ls xi).2.1, .int .i64 (ls xi).2.2]) (Box1.refl _ _) rfl (fun _ _ _ _ => zae rfl) ?_ ?_
     ·
      intro a w' hr hs
      have h5 := hs.get 0 rfl k9 rfl
      simp only at h5
      have hu := Try.underlying35
      obtain ⟨ad', e1, _, x0, x1, x2⟩ := (HL2.out.below (hr.mv.below HN.out (fun k h => Nat.le_trans HN.out h))) xi hxi
      cases e1
      go_simp
     refine zbc (fun v _ => v = kenc (lt ls xi)) (fun _ _ _ _ h => h) rfl rfl Try.func72 k9 rfl (fun _ _ _ _ => zae rfl) ?_ ?_
     ·
      intro a w' hr hs
      have h5 := hs.get 0 rfl k9 rfl
      simp only at h5
      have h6 : (#[Operand.tmp 29] : Array Operand).map a.eval = #[.agg #[.bool (ls xi).1, .string (ls xi).2.1, .int .i64 (ls xi).2.2]] := by simp [Act.eval, h5]
      rw [h6]
      refine (zcy _ _ _ _).mono ?_
      rintro e w2 ⟨rfl, hb⟩
      exact ⟨_, rfl, Box1.of_below hb, rfl⟩
     refine zaF ((.tuple #[(venc fv), .bool true])) (Box1.refl _ _) rfl (fun _ _ _ _ => zae rfl) ?_ ?_
     ·
      intro a w' hr hs
      have h5 := hs.get 5 rfl k9 rfl
      have h6 := hs.get 0 rfl k9 rfl
      simp only at h5 h6
      have hlk := zcs (T := 123) zca Try.underlying123 zbE (hr.at mp2.out.1 (HX.out mp2.out.1)) (lt ls xi)
      rw [HFI.out] at hlk
      simp only at hlk
      go_simp
     refine zaF ((.tuple #[(venc fv), .bool true])) (Box1.refl _ _) rfl (fun _ _ _ _ => zae rfl) ?_ ?_
     ·
      intro a w' hr hs
      have h5 := hs.get 0 rfl k9 rfl
      simp only at h5
      go_simp
     refine zaF ((venc fv)) (Box1.refl _ _) rfl (fun _ _ _ _ => zae rfl) ?_ ?_
     ·
      intro a w' hr hs
      have h5 := hs.get 0 rfl k9 rfl
      simp only at h5
      go_simp
     refine zaF (.bool true) (Box1.refl _ _) rfl (fun _ _ _ _ => zae rfl) ?_ ?_
     ·
      intro a w' hr hs
      have h5 := hs.get 1 rfl k9 rfl
      simp only at h5
      go_simp
     refine ze2 (fun v w => ∃ g, v = .pointer (some ⟨g, 0, none⟩) ∧ W2.drew.heap.size ≤ g ∧ ∃ c, w.heap[g]? = some (.cells #[c] 128 (0, 0))) (fun v w w' hr h => by obtain ⟨g, h1, h2, c, h3⟩ := h; exact ⟨g, h1, h2, hr.box g c h2 h3⟩) rfl (fun _ _ _ _ => zae rfl) ?_ ?_
     ·
      intro a w' hr hs
      refine ⟨.pointer (some ⟨w'.heap.size, 0, none⟩), w'.alloc (.cells #[.int .i64 0] 128), ?_, ⟨(Mv.refl _ _).alloc _, fun g c _ h => ⟨c, zal h _⟩⟩, ⟨_, rfl, hr.mv.size, _, at_new _ _ rfl⟩⟩
      have hz := zbE
      unfold venc at hz
      go_simp
     refine zdu (fun _ => True) (fun _ _ _ _ => trivial) rfl (fun _ _ _ _ => zae rfl) ?_ ?_
     ·
      intro a w' hr hs
      obtain ⟨g, h1, h2, c, h3⟩ := hs.get 0 rfl k9 rfl
      have h4 := hs.get 2 rfl k9 rfl
      simp only at h1 h4
      have hc := zad h3 0
      have hf := free_at h3 0
      have hu := Try.underlying128
      refine ⟨w'.setCell ⟨g, 0, none⟩ (.int .i64 fv), ?_, ⟨(Mv.refl _ _).setCell (.inl h2) _, fun g' c' hg' h' => ?_⟩, trivial⟩
      ·
       unfold venc at h4
       go_simp
      ·
       by_cases hgg : g' = g
       ·
        subst hgg; exact ⟨_, by simpa using zcK h' 0 _⟩
       ·
        exact ⟨c', at_set h' hgg _⟩
     intro vs w3 hr hE
     rw [show List.range 12 = [0, 1, 2, 3, 4, 5, 6, 7, 8, 9, 10, 11] from rfl]
     simp only [List.mem_cons, List.not_mem_nil, or_false, forall_eq_or_imp, forall_eq] at hE
     obtain ⟨_, ⟨gx, hg1, hg2, _⟩, g9, g8, g7, g6, g5, g4, g3, g2, g1, g0⟩ := hE
     simp only [putL, zaU, List.getElem?_toArray, List.getElem?_cons_succ, List.getElem?_cons_zero, Option.bind_some, Act.put, List.setIfInBounds_toArray, List.set_cons_succ, List.set_cons_zero, hg1, g9, g8, g7, g6, g5, g4, g3, g2, g1, g0]
     refine zc4 (i := 12) (r := []) (w' := w3) (.bool true) rfl (zae rfl) q9 (zaX ?_)
     clear hg1 g9 g8 g7 g6 g5 g4 g3 g2 g1 g0
     simp only [Act.put, List.setIfInBounds_toArray, List.set_cons_succ, List.set_cons_zero]
     have hXX : ∀ {k : Nat} {o : Obj}, Mine k o O W2 → Mine k o O w3 := fun h => ⟨hr.at h.1 (HX.out h.1), h.2⟩
     have mv3 := zaa.mk (mv2.out.drew.trans (hr.mv.mono (fun k h1 h2 => absurd h1 (Nat.not_lt.2 h2))))
     have mvW3 := zaa.mk (mvW.out.drew.trans (hr.mv.mono (fun k h1 h2 => absurd h1 (Nat.not_lt.2 h2))))
     have fr3 := zaa.mk (hXX fr2.out)
     have mp3 := zaa.mk (hXX mp2.out)
     have sb3 := zaa.mk (hXX sb2.out)
     have bg3 := zaa.mk (hXX bg2.out)
     have row3 := zaa.mk (hXX row2.out)
     have bl3 := zaa.mk (hXX bl2.out)
     have bk3 := zaa.mk (hXX bk2.out)
     have HL3 := zaa.mk ((HL2.out.below (hr.mv.below HN.out (fun k h => Nat.le_trans HN.out h))).below ((Below.refl n₀ w3).drew))
     have HN3 := zaa.mk (Nat.le_trans HN.out hr.mv.size)
     clear hXX hr
     gi_wp2
     have hs : each ls f (pre ++ [(xi : Int)]) ms = (true, L, m) := by rw [HST.out]; simp [estep, HFI.out, HXF.out]
     exact ⟨mvW3.out.mono (fun k _ h => by simpa using h), EI.of hs fr3.out mp3.out sb3.out bg3.out row3.out bl3.out bk3.out mv3.out OWN.out⟩
  ·
   clear c5 cl ck
   gi_wp2
   obtain ⟨q1, q2, q3, q4⟩ := HLT.out
   obtain ⟨W2, hW2⟩ : ∃ W2 : World, W2 = W.setCell ⟨W0.heap.size + 1 + 1 + 1, 0, none⟩ (.bool true) := ⟨_, rfl⟩
   rw [← hW2]
   have fr2 := zaa.mk (show Mine _ _ O W2 by rw [hW2]; exact FR.out.set (by simp <;> omega) _)
   have mp2 := zaa.mk (show Mine _ _ O W2 by rw [hW2]; exact MP.out.set (by simp <;> omega) _)
   have sb2 := zaa.mk (show Mine _ _ O W2 by rw [hW2]; exact SB.out.set (by simp <;> omega) _)
   have bg2 := zaa.mk (show Mine _ (.cells #[.bool true] 4 (0, 0)) O W2 by rw [hW2]; exact BG.out.one _)
   have row2 := zaa.mk (show Mine _ _ O W2 by rw [hW2]; exact ROW.out.set (by simp <;> omega) _)
   have bl2 := zaa.mk (show Mine _ _ O W2 by rw [hW2]; exact BL.out.set (by simp <;> omega) _)
   have bk2 := zaa.mk (show Mine _ _ O W2 by rw [hW2]; exact BK.out.set (by simp <;> omega) _)
   have mv2 := zaa.mk (show Mv _ W0 W2 by rw [hW2]; exact MV.out.setCell (.inr (by simp <;> omega)) _)
   have HL2 := zaa.mk (show RdL n₀ W2.drew (some ad) N ls from HL.out.below (by rw [hW2]; exact ((Below.refl n₀ W).setCell (p := ⟨W0.heap.size + 1 + 1 + 1, 0, none⟩) (by simp <;> omega) _).drew))
   have HN := zaa.mk (show n₀ ≤ W2.drew.heap.size by have := MV.out.size; rw [hW2]; simp [World.setCell]; omega)
   have mvW := zaa.mk (show Mv (fun k => ¬ O k) W W2 by rw [hW2]; exact (Mv.refl _ _).setCell (.inl BG.out.2) _)
   clear hW2 FR MP SB BG ROW BL BK MV c4 c6 f6 hx0 hx1 hx2
   clear q1 q2 q3 q4
   have hX : ∀ {k : Nat} {o : Obj}, W2.heap[k]? = some o → k < W2.drew.heap.size := fun h => zai h
   have HX := zaa.mk @hX
   clear hX
   rcases hfi : zbw keq (lt ls xi) L 0 with _ | ⟨fi, fv⟩
   ·
    have HFI := zaa.mk hfi
    clear hfi
    refine zbU (N := 48) 12 (Box1 128 W2.drew.heap.size) k9 k9 k9 (fun _ _ h => h) rfl (Box1.refl _ _) (Box1.trans) ?_
    rw [show List.range 12 = [0, 1, 2, 3, 4, 5, 6, 7, 8, 9, 10, 11] from rfl]
    refine zaF (.map (some (W0.heap.size + 1))) (Box1.refl _ _) rfl (fun _ _ _ _ => zae rfl) ?_ ?_
    ·
     intro a w' hr hs
     have h5 := hs.out 5 k9
     have hc := zad (hr.at sb2.out.1 (HX.out sb2.out.1)) 0
     go_simp
    refine zaF (.slice (some ad) N c) (Box1.refl _ _) rfl (fun _ _ _ _ => zae rfl) ?_ ?_
    ·
     intro a w' hr hs
     have h5 := hs.out 1 k9
     have hc := zad (hr.at bl2.out.1 (HX.out bl2.out.1)) 0
     go_simp
    refine zaF (.int .i64 xi) (Box1.refl _ _) rfl (fun _ _ _ _ => zae rfl) ?_ ?_
    ·
     intro a w' hr hs
     have h5 := hs.out 7 k9
     go_simp
    refine zaF (.pointer (some (ad.add (xi * 3)))) (Box1.refl _ _) rfl (fun _ _ _ _ => zae rfl) ?_ ?_
    ·
     intro a w' hr hs
     have h5 := hs.get 1 rfl k9 rfl
     have h6 := hs.get 0 rfl k9 rfl
     simp only at h5 h6
     go_simp
    refine zaF (.agg #[.bool (ls xi).1, .string (ls xi).2.1, .int .i64 (ls xi).2.2]) (Box1.refl _ _) rfl (fun _ _ _ _ => zae rfl) ?_ ?_
    ·
     intro a w' hr hs
     have h5 := hs.get 0 rfl k9 rfl
     simp only at h5
     have hu := Try.underlying35
     obtain ⟨ad', e1, _, x0, x1, x2⟩ := (HL2.out.below (hr.mv.below HN.out (fun k h => Nat.le_trans HN.out h))) xi hxi
     cases e1
     go_simp
    refine zbc (fun v _ => v = kenc (lt ls xi)) (fun _ _ _ _ h => h) rfl rfl Try.func72 k9 rfl (fun _ _ _ _ => zae rfl) ?_ ?_
    ·
     intro a w' hr hs
     have h5 := hs.get 0 rfl k9 rfl
     simp only at h5
     have h6 : (#[Operand.tmp 29] : Array Operand).map a.eval = #[.agg #[.bool (ls xi).1, .string (ls xi).2.1, .int .i64 (ls xi).2.2]] := by simp [Act.eval, h5]
     rw [h6]
     refine (zcy _ _ _ _).mono ?_
     rintro e w2 ⟨rfl, hb⟩
     exact ⟨_, rfl, Box1.of_below hb, rfl⟩
    refine zaF ((.tuple #[(venc 0), .bool false])) (Box1.refl _ _) rfl (fun _ _ _ _ => zae rfl) ?_ ?_
    ·
     intro a w' hr hs
     have h5 := hs.get 5 rfl k9 rfl
     have h6 := hs.get 0 rfl k9 rfl
     simp only at h5 h6
     have hlk := zcs (T := 123) zca Try.underlying123 zbE (hr.at mp2.out.1 (HX.out mp2.out.1)) (lt ls xi)
     rw [HFI.out] at hlk
     simp only at hlk
     go_simp
    refine zaF ((.tuple #[(venc 0), .bool false])) (Box1.refl _ _) rfl (fun _ _ _ _ => zae rfl) ?_ ?_
    ·
     intro a w' hr hs
     have h5 := hs.get 0 rfl k9 rfl
     simp only at h5
     go_simp
    refine zaF ((venc 0)) (Box1.refl _ _) rfl (fun _ _ _ _ => zae rfl) ?_ ?_
    ·
     intro a w' hr hs
     have h5 := hs.get 0 rfl k9 rfl
     simp only at h5
     go_simp
    refine zaF (.bool false) (Box1.refl _ _) rfl (fun _ _ _ _ => zae rfl) ?_ ?_
    ·
     intro a w' hr hs
     have h5 := hs.get 1 rfl k9 rfl
     simp only at h5
     go_simp
    refine ze2 (fun v w => ∃ g, v = .pointer (some ⟨g, 0, none⟩) ∧ W2.drew.heap.size ≤ g ∧ ∃ c, w.heap[g]? = some (.cells #[c] 128 (0, 0))) (fun v w w' hr h => by obtain ⟨g, h1, h2, c, h3⟩ := h; exact ⟨g, h1, h2, hr.box g c h2 h3⟩) rfl (fun _ _ _ _ => zae rfl) ?_ ?_
    ·
     intro a w' hr hs
     refine ⟨.pointer (some ⟨w'.heap.size, 0, none⟩), w'.alloc (.cells #[.int .i64 0] 128), ?_, ⟨(Mv.refl _ _).alloc _, fun g c _ h => ⟨c, zal h _⟩⟩, ⟨_, rfl, hr.mv.size, _, at_new _ _ rfl⟩⟩
     have hz := zbE
     unfold venc at hz
     go_simp
    refine zdu (fun _ => True) (fun _ _ _ _ => trivial) rfl (fun _ _ _ _ => zae rfl) ?_ ?_
    ·
     intro a w' hr hs
     obtain ⟨g, h1, h2, c, h3⟩ := hs.get 0 rfl k9 rfl
     have h4 := hs.get 2 rfl k9 rfl
     simp only at h1 h4
     have hc := zad h3 0
     have hf := free_at h3 0
     have hu := Try.underlying128
     refine ⟨w'.setCell ⟨g, 0, none⟩ (.int .i64 0), ?_, ⟨(Mv.refl _ _).setCell (.inl h2) _, fun g' c' hg' h' => ?_⟩, trivial⟩
     ·
      unfold venc at h4
      go_simp
     ·
      by_cases hgg : g' = g
      ·
       subst hgg; exact ⟨_, by simpa using zcK h' 0 _⟩
      ·
       exact ⟨c', at_set h' hgg _⟩
    intro vs w3 hr hE
    rw [show List.range 12 = [0, 1, 2, 3, 4, 5, 6, 7, 8, 9, 10, 11] from rfl]
    simp only [List.mem_cons, List.not_mem_nil, or_false, forall_eq_or_imp, forall_eq] at hE
    obtain ⟨_, ⟨gx, hg1, hg2, _⟩, g9, g8, g7, g6, g5, g4, g3, g2, g1, g0⟩ := hE
    simp only [putL, zaU, List.getElem?_toArray, List.getElem?_cons_succ, List.getElem?_cons_zero, Option.bind_some, Act.put, List.setIfInBounds_toArray, List.set_cons_succ, List.set_cons_zero, hg1, g9, g8, g7, g6, g5, g4, g3, g2, g1, g0]
    refine zc4 (i := 12) (r := []) (w' := w3) (.bool false) rfl (zae rfl) q9 (zaX ?_)
    clear hg1 g9 g8 g7 g6 g5 g4 g3 g2 g1 g0
    simp only [Act.put, List.setIfInBounds_toArray, List.set_cons_succ, List.set_cons_zero]
    have hXX : ∀ {k : Nat} {o : Obj}, Mine k o O W2 → Mine k o O w3 := fun h => ⟨hr.at h.1 (HX.out h.1), h.2⟩
    have mv3 := zaa.mk (mv2.out.drew.trans (hr.mv.mono (fun k h1 h2 => absurd h1 (Nat.not_lt.2 h2))))
    have mvW3 := zaa.mk (mvW.out.drew.trans (hr.mv.mono (fun k h1 h2 => absurd h1 (Nat.not_lt.2 h2))))
    have fr3 := zaa.mk (hXX fr2.out)
    have mp3 := zaa.mk (hXX mp2.out)
    have sb3 := zaa.mk (hXX sb2.out)
    have bg3 := zaa.mk (hXX bg2.out)
    have row3 := zaa.mk (hXX row2.out)
    have bl3 := zaa.mk (hXX bl2.out)
    have bk3 := zaa.mk (hXX bk2.out)
    have HL3 := zaa.mk ((HL2.out.below (hr.mv.below HN.out (fun k h => Nat.le_trans HN.out h))).below ((Below.refl n₀ w3).drew))
    have HN3 := zaa.mk (Nat.le_trans HN.out hr.mv.size)
    clear hXX hr
    gi_wp2
    refine zbU (N := 48) 8 (Box1 128 w3.drew.heap.size) k9 k9 k9 (fun _ _ h => h) rfl (Box1.refl _ _) (Box1.trans) ?_
    rw [show List.range 8 = [0, 1, 2, 3, 4, 5, 6, 7] from rfl]
    refine zaF (.map (some (W0.heap.size + 1))) (Box1.refl _ _) rfl (fun _ _ _ _ => zae rfl) ?_ ?_
    ·
     intro a w' hr hs
     have h5 := hs.out 5 k9
     have hc := zad (hr.at sb3.out.1 (zai sb3.out.1)) 0
     go_simp
    refine zaF (.slice (some ad) N c) (Box1.refl _ _) rfl (fun _ _ _ _ => zae rfl) ?_ ?_
    ·
     intro a w' hr hs
     have h5 := hs.out 1 k9
     have hc := zad (hr.at bl3.out.1 (zai bl3.out.1)) 0
     go_simp
    refine zaF (.int .i64 xi) (Box1.refl _ _) rfl (fun _ _ _ _ => zae rfl) ?_ ?_
    ·
     intro a w' hr hs
     have h5 := hs.out 7 k9
     go_simp
    refine zaF (.pointer (some (ad.add (xi * 3)))) (Box1.refl _ _) rfl (fun _ _ _ _ => zae rfl) ?_ ?_
    ·
     intro a w' hr hs
     have h5 := hs.get 1 rfl k9 rfl
     have h6 := hs.get 0 rfl k9 rfl
     simp only at h5 h6
     go_simp
    refine zaF (.agg #[.bool (ls xi).1, .string (ls xi).2.1, .int .i64 (ls xi).2.2]) (Box1.refl _ _) rfl (fun _ _ _ _ => zae rfl) ?_ ?_
    ·
     intro a w' hr hs
     have h5 := hs.get 0 rfl k9 rfl
     simp only at h5
     have hu := Try.underlying35
     obtain ⟨ad', e1, _, x0, x1, x2⟩ := (HL3.out.below (hr.mv.below HN3.out (fun k h => Nat.le_trans HN3.out h))) xi hxi
     cases e1
     go_simp
    refine zbc (fun v _ => v = kenc (lt ls xi)) (fun _ _ _ _ h => h) rfl rfl Try.func72 k9 rfl (fun _ _ _ _ => zae rfl) ?_ ?_
    ·
     intro a w' hr hs
     have h5 := hs.get 0 rfl k9 rfl
     simp only at h5
     have h6 : (#[Operand.tmp 40] : Array Operand).map a.eval = #[.agg #[.bool (ls xi).1, .string (ls xi).2.1, .int .i64 (ls xi).2.2]] := by simp [Act.eval, h5]
     rw [h6]
     refine (zcy _ _ _ _).mono ?_
     rintro e w2 ⟨rfl, hb⟩
     exact ⟨_, rfl, Box1.of_below hb, rfl⟩
    refine zaF (.int .i64 xi) (Box1.refl _ _) rfl (fun _ _ _ _ => zae rfl) ?_ ?_
    ·
     intro a w' hr hs
     have h5 := hs.out 7 k9
     go_simp
    refine zaF (venc xi) (Box1.refl _ _) rfl (fun _ _ _ _ => zae rfl) ?_ ?_
    ·
     intro a w' hr hs
     have h5 := hs.get 0 rfl k9 rfl
     simp only at h5
     have hu := Try.underlying128
     unfold venc
     go_simp
    intro vs w4 hr hE
    rw [show List.range 8 = [0, 1, 2, 3, 4, 5, 6, 7] from rfl]
    simp only [List.mem_cons, List.not_mem_nil, or_false, forall_eq_or_imp, forall_eq] at hE
    obtain ⟨g7, g6, g5, g4, g3, g2, g1, g0⟩ := hE
    simp only [putL, zaU, List.getElem?_toArray, List.getElem?_cons_succ, List.getElem?_cons_zero, Option.bind_some, Act.put, List.setIfInBounds_toArray, List.set_cons_succ, List.set_cons_zero, g7, g6, g5, g4, g3, g2, g1, g0]
    clear g7 g6 g5 g4 g3 g2 g1 g0
    have hXX : ∀ {k : Nat} {o : Obj}, Mine k o O w3 → Mine k o O w4 := fun h => ⟨hr.at h.1 (zai h.1), h.2⟩
    have hup := zdk (P := Try.prog) (T := 123) zca Try.underlying123 (hXX mp3.out).1 (lt ls xi) (xi : Int)
    obtain ⟨w5, hw5⟩ : ∃ w5 : World, w5 = w4.putObj (W0.heap.size + 1) (zbR kenc venc (upd keq (lt ls xi) (xi : Int) L.length L).1 (upd keq (lt ls xi) (xi : Int) L.length L).2) := ⟨_, rfl⟩
    rw [← hw5] at hup
    have hUP := hup
    refine zcQ (i := 8) (r := []) (w' := w5) rfl (zae rfl) q9 (zaX ?_)
    obtain ⟨q1, q2, q3, q4⟩ := HLT.out
    have mv4 := zaa.mk (show Mv _ W0 w5 by rw [hw5]; exact (mv3.out.drew.trans (hr.mv.mono (fun k h1 h2 => absurd h1 (Nat.not_lt.2 h2)))).putObj (.inr o9) _)
    have mvW4 := zaa.mk (show Mv (fun k => ¬ O k) W w5 by rw [hw5]; exact (mvW3.out.drew.trans (hr.mv.mono (fun k h1 h2 => absurd h1 (Nat.not_lt.2 h2)))).putObj (.inl mp3.out.2) _)
    have fr4 := zaa.mk (show Mine _ _ O w5 by rw [hw5]; exact (hXX fr3.out).put o9 _)
    have mp4 := zaa.mk (show Mine _ _ O w5 by rw [hw5]; exact ⟨World.putObj_heap_same (zai (hXX mp3.out).1), mp3.out.2⟩)
    have sb4 := zaa.mk (show Mine _ _ O w5 by rw [hw5]; exact (hXX sb3.out).put o9 _)
    have bg4 := zaa.mk (show Mine _ _ O w5 by rw [hw5]; exact (hXX bg3.out).put o9 _)
    have row4 := zaa.mk (show Mine _ _ O w5 by rw [hw5]; exact (hXX row3.out).put o9 _)
    have bl4 := zaa.mk (show Mine _ _ O w5 by rw [hw5]; exact (hXX bl3.out).put o9 _)
    have bk4 := zaa.mk (show Mine _ _ O w5 by rw [hw5]; exact (hXX bk3.out).put o9 _)
    clear hXX hr hup hUP hw5 q1 q2 q3 q4
    have hck := zad bk4.out.1 0
    have hcm := zad row4.out.1 xi
    have hfm := free_at row4.out.1 xi
    have hmx : (m.map Value.bool).toArray[xi]? = some (.bool (m.getD xi false)) := by simp [List.getElem?_map, HLEN.out, hxi]
    rw [hmx] at hcm
    clear hmx
    simp only [List.getElem?_toArray, List.getElem?_cons_zero] at hck
    simp only [Act.put, List.setIfInBounds_toArray, List.set_cons_succ, List.set_cons_zero]
    gi_wp2
    obtain ⟨q1, q2, q3, q4⟩ := HLT.out
    have hs : each ls f (pre ++ [(xi : Int)]) ms = (true, L ++ [(lt ls xi, (xi : Int), L.length)], m.set xi true) := by rw [HST.out]; simp [estep, HFI.out, Bool.true_or]
    have hupd : upd keq (lt ls xi) (xi : Int) L.length L = (L ++ [(lt ls xi, (xi : Int), L.length)], L.length + 1) := by simp [upd, HFI.out]
    have mp5 : Mine (W0.heap.size + 1) (zbR kenc venc (L ++ [(lt ls xi, (xi : Int), L.length)]) (L ++ [(lt ls xi, (xi : Int), L.length)]).length) O w5 := by
     have := mp4.out
     rw [hupd] at this
     simpa using this
    refine ⟨(mvW4.out.setCell (.inl row4.out.2) _).mono (fun k _ h => by simpa using h), EI.of hs (fr4.out.set (by simp <;> omega) _) (mp5.set (by simp <;> omega) _) (sb4.out.set (by simp <;> omega) _) (bg4.out.set (by simp <;> omega) _) ⟨?_, row4.out.2⟩ (bl4.out.set (by simp <;> omega) _) (bk4.out.set (by simp <;> omega) _) (mv4.out.setCell (.inl rfl) _) OWN.out⟩
    have := zcK row4.out.1 xi (.bool true)
    rw [this]
    congr 2
    simp [List.map_set]
   ·
    have HFI := zaa.mk hfi
    clear hfi
    refine zbU (N := 48) 12 (Box1 128 W2.drew.heap.size) k9 k9 k9 (fun _ _ h => h) rfl (Box1.refl _ _) (Box1.trans) ?_
    rw [show List.range 12 = [0, 1, 2, 3, 4, 5, 6, 7, 8, 9, 10, 11] from rfl]
    refine zaF (.map (some (W0.heap.size + 1))) (Box1.refl _ _) rfl (fun _ _ _ _ => zae rfl) ?_ ?_
    ·
     intro a w' hr hs
     have h5 := hs.out 5 k9
     have hc := zad (hr.at sb2.out.1 (HX.out sb2.out.1)) 0
     go_simp
    refine zaF (.slice (some ad) N c) (Box1.refl _ _) rfl (fun _ _ _ _ => zae rfl) ?_ ?_
    ·
     intro a w' hr hs
     have h5 := hs.out 1 k9
     have hc := zad (hr.at bl2.out.1 (HX.out bl2.out.1)) 0
     go_simp
    refine zaF (.int .i64 xi) (Box1.refl _ _) rfl (fun _ _ _ _ => zae rfl) ?_ ?_
    ·
     intro a w' hr hs
     have h5 := hs.out 7 k9
     go_simp
    refine zaF (.pointer (some (ad.add (xi * 3)))) (Box1.refl _ _) rfl (fun _ _ _ _ => zae rfl) ?_ ?_
    ·
     intro a w' hr hs
     have h5 := hs.get 1 rfl k9 rfl
     have h6 := hs.get 0 rfl k9 rfl
     simp only at h5 h6
     go_simp
    refine zaF (.agg #[.bool (ls xi).1, .string (ls xi).2.1, .int .i64 (ls xi).2.2]) (Box1.refl _ _) rfl (fun _ _ _ _ => zae rfl) ?_ ?_
    ·
     intro a w' hr hs
     have h5 := hs.get 0 rfl k9 rfl
     simp only at h5
     have hu := Try.underlying35
     obtain ⟨ad', e1, _, x0, x1, x2⟩ := (HL2.out.below (hr.mv.below HN.out (fun k h => Nat.le_trans HN.out h))) xi hxi
     cases e1
     go_simp
    refine zbc (fun v _ => v = kenc (lt ls xi)) (fun _ _ _ _ h => h) rfl rfl Try.func72 k9 rfl (fun _ _ _ _ => zae rfl) ?_ ?_
    ·
     intro a w' hr hs
     have h5 := hs.get 0 rfl k9 rfl
     simp only at h5
     have h6 : (#[Operand.tmp 29] : Array Operand).map a.eval = #[.agg #[.bool (ls xi).1, .string (ls xi).2.1, .int .i64 (ls xi).2.2]] := by simp [Act.eval, h5]
     rw [h6]
     refine (zcy _ _ _ _).mono ?_
     rintro e w2 ⟨rfl, hb⟩
     exact ⟨_, rfl, Box1.of_below hb, rfl⟩
    refine zaF ((.tuple #[(venc fv), .bool true])) (Box1.refl _ _) rfl (fun _ _ _ _ => zae rfl) ?_ ?_
    ·
     intro a w' hr hs
     have h5 := hs.get 5 rfl k9 rfl
     have h6 := hs.get 0 rfl k9 rfl
     simp only at h5 h6
     have hlk := zcs (T := 123) zca Try.underlying123 zbE (hr.at mp2.out.1 (HX.out mp2.out.1)) (lt ls xi)
     rw [HFI.out] at hlk
     simp only at hlk
     go_simp
    refine zaF ((.tuple #[(venc fv), .bool true])) (Box1.refl _ _) rfl (fun _ _ _ _ => zae rfl) ?_ ?_
    ·
     intro a w' hr hs
     have h5 := hs.get 0 rfl k9 rfl
     simp only at h5
     go_simp
    refine zaF ((venc fv)) (Box1.refl _ _) rfl (fun _ _ _ _ => zae rfl) ?_ ?_
    ·
     intro a w' hr hs
     have h5 := hs.get 0 rfl k9 rfl
     simp only at h5
     go_simp
    refine zaF (.bool true) (Box1.refl _ _) rfl (fun _ _ _ _ => zae rfl) ?_ ?_
    ·
     intro a w' hr hs
     have h5 := hs.get 1 rfl k9 rfl
     simp only at h5
     go_simp
    refine ze2 (fun v w => ∃ g, v = .pointer (some ⟨g, 0, none⟩) ∧ W2.drew.heap.size ≤ g ∧ ∃ c, w.heap[g]? = some (.cells #[c] 128 (0, 0))) (fun v w w' hr h => by obtain ⟨g, h1, h2, c, h3⟩ := h; exact ⟨g, h1, h2, hr.box g c h2 h3⟩) rfl (fun _ _ _ _ => zae rfl) ?_ ?_
    ·
     intro a w' hr hs
     refine ⟨.pointer (some ⟨w'.heap.size, 0, none⟩), w'.alloc (.cells #[.int .i64 0] 128), ?_, ⟨(Mv.refl _ _).alloc _, fun g c _ h => ⟨c, zal h _⟩⟩, ⟨_, rfl, hr.mv.size, _, at_new _ _ rfl⟩⟩
     have hz := zbE
     unfold venc at hz
     go_simp
    refine zdu (fun _ => True) (fun _ _ _ _ => trivial) rfl (fun _ _ _ _ => zae rfl) ?_ ?_
    ·
     intro a w' hr hs
     obtain ⟨g, h1, h2, c, h3⟩ := hs.get 0 rfl k9 rfl
     have h4 := hs.get 2 rfl k9 rfl
     simp only at h1 h4
     have hc := zad h3 0
     have hf := free_at h3 0
     have hu := Try.underlying128
     refine ⟨w'.setCell ⟨g, 0, none⟩ (.int .i64 fv), ?_, ⟨(Mv.refl _ _).setCell (.inl h2) _, fun g' c' hg' h' => ?_⟩, trivial⟩
     ·
      unfold venc at h4
      go_simp
     ·
      by_cases hgg : g' = g
      ·
       subst hgg; exact ⟨_, by simpa using zcK h' 0 _⟩
      ·
       exact ⟨c', at_set h' hgg _⟩
    intro vs w3 hr hE
    rw [show List.range 12 = [0, 1, 2, 3, 4, 5, 6, 7, 8, 9, 10, 11] from rfl]
    simp only [List.mem_cons, List.not_mem_nil, or_false, forall_eq_or_imp, forall_eq] at hE
    obtain ⟨_, ⟨gx, hg1, hg2, _⟩, g9, g8, g7, g6, g5, g4, g3, g2, g1, g0⟩ := hE
    simp only [putL, zaU, List.getElem?_toArray, List.getElem?_cons_succ, List.getElem?_cons_zero, Option.bind_some, Act.put, List.setIfInBounds_toArray, List.set_cons_succ, List.set_cons_zero, hg1, g9, g8, g7, g6, g5, g4, g3, g2, g1, g0]
    refine zc4 (i := 12) (r := []) (w' := w3) (.bool true) rfl (zae rfl) q9 (zaX ?_)
    clear hg1 g9 g8 g7 g6 g5 g4 g3 g2 g1 g0
    simp only [Act.put, List.setIfInBounds_toArray, List.set_cons_succ, List.set_cons_zero]
    have hXX : ∀ {k : Nat} {o : Obj}, Mine k o O W2 → Mine k o O w3 := fun h => ⟨hr.at h.1 (HX.out h.1), h.2⟩
    have mv3 := zaa.mk (mv2.out.drew.trans (hr.mv.mono (fun k h1 h2 => absurd h1 (Nat.not_lt.2 h2))))
    have mvW3 := zaa.mk (mvW.out.drew.trans (hr.mv.mono (fun k h1 h2 => absurd h1 (Nat.not_lt.2 h2))))
    have fr3 := zaa.mk (hXX fr2.out)
    have mp3 := zaa.mk (hXX mp2.out)
    have sb3 := zaa.mk (hXX sb2.out)
    have bg3 := zaa.mk (hXX bg2.out)
    have row3 := zaa.mk (hXX row2.out)
    have bl3 := zaa.mk (hXX bl2.out)
    have bk3 := zaa.mk (hXX bk2.out)
    have HL3 := zaa.mk ((HL2.out.below (hr.mv.below HN.out (fun k h => Nat.le_trans HN.out h))).below ((Below.refl n₀ w3).drew))
    have HN3 := zaa.mk (Nat.le_trans HN.out hr.mv.size)
    clear hXX hr
    gi_wp2
    have hs : each ls f (pre ++ [(xi : Int)]) ms = (true, L, m) := by rw [HST.out]; simp [estep, HFI.out, Bool.true_or]
    exact ⟨mvW3.out.mono (fun k _ h => by simpa using h), EI.of hs fr3.out mp3.out sb3.out bg3.out row3.out bl3.out bk3.out mv3.out OWN.out⟩
 case done =>
  intro D xs O W hD hOD hOl hS hI hK
  subst hS
  gi_wp2
  refine ⟨by simp, .inl ⟨_, _, rfl, run_takeDeferred hK, ?_⟩⟩
  exact ⟨_, results_none rfl _ _ _, rfl, hI.mv.putObj (.inr o9) _, zcP hI.row.1 (fun e => hI.row.2 (by rw [e]; exact hOD)) _⟩
abbrev Ents := List (Letter × Int × Nat)
theorem zdb {ls : Nat → Lay} {f i : Int} {b : Bool} {L : Ents} {m : List Bool} (h : ¬ (b || i == f) = true) : estep ls f (b, L, m) i = (false, L, m) := by simp only [estep]; rw [if_neg h]
theorem zc7 {ls : Nat → Lay} {f i : Int} {b : Bool} {L : Ents} {m : List Bool} {v : Nat × Int} (h : (b || i == f) = true) (hf : zbw keq (lt ls i) L 0 = some v) : estep ls f (b, L, m) i = (true, L, m) := by simp only [estep]; rw [if_pos h]; simp only [hf]
theorem zcU {ls : Nat → Lay} {f i : Int} {b : Bool} {L : Ents} {m : List Bool} (h : (b || i == f) = true) (hf : zbw keq (lt ls i) L 0 = none) : estep ls f (b, L, m) i = (true, L ++ [(lt ls i, i, L.length)], m.set i.toNat true) := by simp only [estep]; rw [if_pos h]; simp only [hf]
theorem zeo (ls : Nat → Lay) (f : Int) : ∀ (pre : List Int) (b : Bool) (L : Ents) (m1 m2 : List Bool), (pre.foldl (estep ls f) (b, L, m1)).2.1 = (pre.foldl (estep ls f) (b, L, m2)).2.1
 | [], _, _, _, _ => rfl
 | x :: r, b, L, m1, m2 => by
  simp only [List.foldl_cons]
  by_cases hb : (b || x == f) = true
  ·
   cases hf : zbw keq (lt ls x) L 0 with
   | some v => rw [zc7 hb hf, zc7 hb hf]; exact zeo ls f r true L m1 m2
   | none => rw [zcU hb hf, zcU hb hf]; exact zeo ls f r true _ _ _
  ·
   rw [zdb hb, zdb hb]; exact zeo ls f r false L m1 m2
theorem zdK (ls : Nat → Lay) (f : Int) : ∀ (pre : List Int) (b : Bool) (L : Ents) (ms : List Bool),
  (pre.foldl (estep ls f) (b, L, L.foldl (fun m e => m.set e.2.1.toNat true) ms)).2.2 = (pre.foldl (estep ls f) (b, L, [])).2.1.foldl (fun m e => m.set e.2.1.toNat true) ms
 | [], b, L, ms => rfl
 | x :: r, b, L, ms => by
  simp only [List.foldl_cons]
  by_cases hb : (b || x == f) = true
  ·
   cases hf : zbw keq (lt ls x) L 0 with
   | some v => rw [zc7 hb hf, zc7 hb hf]; exact zdK ls f r true L ms
   | none =>
    rw [zcU hb hf, zcU hb hf]
    have := zdK ls f r true (L ++ [(lt ls x, x, L.length)]) ms
    rw [List.foldl_append] at this
    rw [zeo ls f r true (L ++ [(lt ls x, x, L.length)]) (([] : List Bool).set x.toNat true) []]
    exact this
  ·
   rw [zdb hb, zdb hb]; exact zdK ls f r false L ms
def eachL (ls : Nat → Lay) (N : Nat) (back : Bool) (f : Int) : Ents := (each ls f (idxs N back) []).2.1
def hits (ls : Nat → Lay) (N : Nat) (back : Bool) (f : Int) (i : Nat) : Bool := (eachL ls N back f).any fun e => e.2.1.toNat == i
theorem zhT (i : Nat) : ∀ (L : Ents) (ms : List Bool), i < ms.length → (L.foldl (fun m e => m.set e.2.1.toNat true) ms).getD i false = (ms.getD i false || L.any fun e => e.2.1.toNat == i)
 | [], ms, _ => by simp
 | e :: r, ms, h => by
  rw [List.foldl_cons, zhT i r _ (by simpa using h), List.any_cons]
  by_cases he : e.2.1.toNat = i
  ·
   subst he; simp [h]
  ·
   have : (e.2.1.toNat == i) = false := by simpa using he
   rw [this, Bool.false_or]
   congr 1
   simp [List.getElem?_set, he]
theorem zjU (ls : Nat → Lay) (N : Nat) (back : Bool) (f : Int) (ms : List Bool) (i : Nat) (h : i < ms.length) : (each ls f (idxs N back) ms).2.2.getD i false = (ms.getD i false || hits ls N back f i) := by
 have := zdK ls f (idxs N back) false [] ms
 simp only [List.foldl_nil] at this
 unfold each
 rw [this, zhT i _ _ h]
 rfl
theorem zj3 (ls : Nat → Lay) (N : Nat) (back : Bool) (f : Int) (ms : List Bool) : (each ls f (idxs N back) ms).2.2.length = ms.length := zeV ls f _ _
def fstep (ls : Nat → Lay) (L : Ents) (i : Int) : Ents := match zbw keq (lt ls i) L 0 with | some _ => L | none => L ++ [(lt ls i, i, L.length)]
def fsts (ls : Nat → Lay) (pre : List Int) : Ents := pre.foldl (fstep ls) []
theorem zh5 (ls : Nat → Lay) (L : Ents) (i : Int) (h : L.map (·.2.2) = List.range L.length) : (fstep ls L i).map (·.2.2) = List.range (fstep ls L i).length := by
 unfold fstep
 split
 ·
  exact h
 ·
  simp [h, List.range_succ]
theorem ziN (ls : Nat → Lay) (pre : List Int) : (fsts ls pre).map (·.2.2) = List.range (fsts ls pre).length := by
 have : ∀ (pre : List Int) (L : Ents), L.map (·.2.2) = List.range L.length → (pre.foldl (fstep ls) L).map (·.2.2) = List.range (pre.foldl (fstep ls) L).length := by
  intro pre
  induction pre with
  | nil => intro L h; exact h
  | cons x r ih => intro L h; exact ih _ (zh5 ls L x h)
 exact this pre [] rfl
def rowAt (ls : Nat → Lay) (N : Nat) (back : Bool) (F : Ents) (ms : List Bool) (seen : Nat → Bool) : List Bool :=
 (List.range N).map fun i => ms.getD i false || F.any fun e => seen e.2.2 && hits ls N back e.2.1 i
def marked (ls : Nat → Lay) (N : Nat) (back : Bool) (ms : List Bool) : List Bool := rowAt ls N back (fsts ls (idxs N back)) ms fun _ => true
theorem zg1 (ls : Nat → Lay) (N : Nat) (back : Bool) (F : Ents) (ms : List Bool) (h : ms.length = N) : rowAt ls N back F ms (fun _ => false) = ms := by
 refine List.ext_getElem? fun i => ?_
 unfold rowAt
 by_cases hi : i < N
 ·
  simp [hi, h]
 ·
  simp [hi, h]
theorem zgL : ∀ (F : Ents), (F.map (·.2.2)).Nodup → ∀ x ∈ F, ∀ e ∈ F, x.2.2 = e.2.2 → x = e
 | [], _, _, h, _, _, _ => by simp at h
 | y :: r, hnd, x, hx, e, he, hxe => by
  rw [List.map_cons, List.nodup_cons] at hnd
  rcases List.mem_cons.1 hx with hx0 | hx1 <;> rcases List.mem_cons.1 he with he0 | he1
  ·
   rw [hx0, he0]
  ·
   exact absurd (List.mem_map.2 ⟨e, he1, by rw [← hxe, hx0]⟩) hnd.1
  ·
   exact absurd (List.mem_map.2 ⟨x, hx1, by rw [hxe, he0]⟩) hnd.1
  ·
   exact zgL r hnd.2 x hx1 e he1 hxe
theorem zic (ls : Nat → Lay) (N : Nat) (back : Bool) (F : Ents) (ms : List Bool) (seen : Nat → Bool) (e : Letter × Int × Nat) (he : e ∈ F) (hn : (F.map (·.2.2)).Nodup) :
  (each ls e.2.1 (idxs N back) (rowAt ls N back F ms seen)).2.2 = rowAt ls N back F ms (fun b => seen b || b == e.2.2) := by
 have hlen : ∀ s, (rowAt ls N back F ms s).length = N := fun s => by simp [rowAt]
 have hget : ∀ s i, i < N → (rowAt ls N back F ms s).getD i false = (ms.getD i false || F.any fun e => s e.2.2 && hits ls N back e.2.1 i) := fun s i hi => by
  simp [rowAt, hi]
 refine List.ext_getElem (by rw [zj3, hlen, hlen]) fun i h1 h2 => ?_
 have hi : i < N := by rw [hlen] at h2; exact h2
 have hA := zjU ls N back e.2.1 (rowAt ls N back F ms seen) i (by rw [hlen]; exact hi)
 rw [hget seen i hi] at hA
 have hB := hget (fun b => seen b || b == e.2.2) i hi
 rw [List.getD_eq_getElem?_getD, List.getElem?_eq_getElem h1, Option.getD_some] at hA
 rw [List.getD_eq_getElem?_getD, List.getElem?_eq_getElem h2, Option.getD_some] at hB
 rw [hA, hB, Bool.or_assoc]
 congr 1
 rw [Bool.eq_iff_iff, Bool.or_eq_true, List.any_eq_true, List.any_eq_true]
 constructor
 ·
  rintro (⟨x, hx, hh⟩ | hh)
  ·
   rw [Bool.and_eq_true] at hh
   exact ⟨x, hx, by rw [Bool.and_eq_true, Bool.or_eq_true]; exact ⟨.inl hh.1, hh.2⟩⟩
  ·
   exact ⟨e, he, by rw [Bool.and_eq_true, Bool.or_eq_true]; exact ⟨.inr (beq_self_eq_true _), hh⟩⟩
 ·
  rintro ⟨x, hx, hh⟩
  rw [Bool.and_eq_true, Bool.or_eq_true] at hh
  rcases hh with ⟨hs | hs, hh⟩
  ·
   exact .inl ⟨x, hx, by rw [Bool.and_eq_true]; exact ⟨hs, hh⟩⟩
  ·
   have hxe := zgL F hn x hx e he (beq_iff_eq.1 hs)
   rw [hxe] at hh
   exact .inr hh
theorem ziZ (ls : Nat → Lay) (N : Nat) (back : Bool) (F : Ents) (ms : List Bool) (seen : Nat → Bool) (h : ∀ e ∈ F, seen e.2.2 = true) : rowAt ls N back F ms seen = rowAt ls N back F ms fun _ => true := by
 unfold rowAt
 refine List.map_congr_left fun i _ => ?_
 congr 1
 rw [Bool.eq_iff_iff, List.any_eq_true, List.any_eq_true]
 constructor
 ·
  rintro ⟨e, he, hh⟩; rw [Bool.and_eq_true] at hh; exact ⟨e, he, by rw [Bool.true_and]; exact hh.2⟩
 ·
  rintro ⟨e, he, hh⟩; rw [Bool.true_and] at hh; exact ⟨e, he, by rw [Bool.and_eq_true]; exact ⟨h e he, hh⟩⟩
structure MI (ls : Nat → Lay) (W0 : World) (vl vk : Value) (back : Bool) (pre : List Int) (O : Nat → Prop) (W : World) : Prop where
 fr : Mine (W0.heap.size + 1) (.cells #[vk] 97 (0, 0)) O W
 bl : Mine W0.heap.size (.cells #[vl] 25 (0, 0)) O W
 ba : Mine (W0.heap.size + 2) (.cells #[.bool back] 4 (0, 0)) O W
 mp : Mine (W0.heap.size + 3) (zbR kenc venc (fsts ls pre) (fsts ls pre).length) O W
 sb : Mine (W0.heap.size + 4) (.cells #[.map (some (W0.heap.size + 3))] 123 (0, 0)) O W
 mv : Mv (fun _ => False) W0 W
 own : ∀ k, O k → W0.heap.size ≤ k
theorem MI.stable (ls : Nat → Lay) (W0 : World) (vl vk : Value) (back : Bool) : Stable (MI ls W0 vl vk back) := fun s O O' W W' h hm h1 h2 => by
 have hst : ∀ {b : Nat} {o : Obj}, Mine b o O W → Mine b o O' W' := fun hb => Mine.stable (β := Unit) (fun _ => _) (fun _ => _) () O O' W W' hb hm h1 h2
 refine ⟨hst h.fr, hst h.bl, hst h.ba, hst h.mp, hst h.sb, ?_, fun k hk => (h2 k hk).elim (h.own k) (fun x => by have := h.mv.size; omega)⟩
 exact ⟨hm.os.trans h.mv.os, hm.tape.trans h.mv.tape, hm.output.trans h.mv.output, Nat.le_trans h.mv.size hm.size, fun k hk hno => (hm.block k (Nat.lt_of_lt_of_le hk h.mv.size) (fun e => by have := h.own k e; omega)).trans (h.mv.block k hk hno)⟩
theorem MI.of {ls : Nat → Lay} {W0 : World} {vl vk : Value} {back : Bool} {pre : List Int} {O : Nat → Prop} {W : World} {L : Ents} (h : fsts ls pre = L)
  (fr : Mine (W0.heap.size + 1) (.cells #[vk] 97 (0, 0)) O W) (bl : Mine W0.heap.size (.cells #[vl] 25 (0, 0)) O W) (ba : Mine (W0.heap.size + 2) (.cells #[.bool back] 4 (0, 0)) O W)
  (mp : Mine (W0.heap.size + 3) (zbR kenc venc L L.length) O W) (sb : Mine (W0.heap.size + 4) (.cells #[.map (some (W0.heap.size + 3))] 123 (0, 0)) O W)
  (mv : Mv (fun _ => False) W0 W) (own : ∀ k, O k → W0.heap.size ≤ k) : MI ls W0 vl vk back pre O W := by
 subst h; exact ⟨fr, bl, ba, mp, sb, mv, own⟩
def seenAt (R : Nat) (W : World) : Array Nat := match W.heap[R]? with | some (.mapIter _ _ s _) => s | _ => #[]
theorem zeS (n₀ N c : Nat) (hN : N ≤ 4611686018427387904) (A : Option Addr) (ls : Nat → Lay) (back : Bool) (ms : List Bool) (hms : ms.length = N) (W0 : World) (Bm cm : Nat) (hl : RdL n₀ W0 A N ls) (hn₀ : n₀ ≤ Bm)
  (hBm : W0.heap[Bm]? = some (.cells (ms.map Value.bool).toArray 100 (0, 0))) :
  Calls Try.prog 57 #[.slice A N c, .slice (some ⟨Bm, 0, none⟩) N cm, .bool back] W0 fun e W' =>
   e = .returned (.tuple #[]) ∧ Mv (fun k => k = Bm) W0 W' ∧ W'.heap[Bm]? = some (.cells ((marked ls N back ms).map Value.bool).toArray 100 (0, 0)) := by
 refine (callsIn_wide (n := 5)).1 ?_
 refine callsIn_of_wp_marks Try.func57 rfl trivial ?_ rfl
 simp only [Try.ntmps57, List.size_toArray, List.length_cons, List.length_nil, Nat.reduceAdd, Nat.reduceSub, Array.replicate_succ, Array.replicate_zero, List.push_toArray, List.append_toArray, List.nil_append, List.cons_append]
 have hmm := @run_makeMap Try.prog
 have hlt4 := zai hBm
 gi_wp2_with (refine ⟨trivial, ?_⟩; gi_at_call 71; refine ((callsIn_wide (n := 4)).2 (zfc _ _ _)).mono ?_; rintro e w' ⟨rfl, rfl⟩)
 try simp only [World.size_alloc]
 obtain ⟨W1, hW1⟩ : ∃ W1 : World, W1 = (((((((W0.alloc (.cells #[.slice A N c] 25)).alloc (.cells #[.slice (some ⟨Bm, 0, none⟩) N cm] 97)).alloc (.cells #[.bool back] 4)).alloc (.map #[] 0)).alloc (.cells #[.map (some (W0.heap.size + 1 + 1 + 1))] 123)).alloc (.cells #[.int .i64 (N : Int)] 3)).alloc (.cells #[.bool back] 4)) := ⟨_, rfl⟩
 rw [← hW1]
 have hsz : W1.heap.size = W0.heap.size + 7 := by rw [hW1]; simp
 have hmv : Mv (fun _ => False) W0 W1 := by rw [hW1]; exact (((((((Mv.refl _ _).alloc _).alloc _).alloc _).alloc _).alloc _).alloc _).alloc _
 have b0 : W1.heap[W0.heap.size]? = some (.cells #[.slice A N c] 25 (0, 0)) := by rw [hW1]; exact zal (zal (zal (zal (zal (zal (at_new _ _ rfl) _) _) _) _) _) _
 have b1 : W1.heap[W0.heap.size + 1]? = some (.cells #[.slice (some ⟨Bm, 0, none⟩) N cm] 97 (0, 0)) := by rw [hW1]; exact zal (zal (zal (zal (zal (at_new _ _ s9) _) _) _) _) _
 have b2 : W1.heap[W0.heap.size + 2]? = some (.cells #[.bool back] 4 (0, 0)) := by rw [hW1]; exact zal (zal (zal (zal (at_new _ _ s9) _) _) _) _
 have b3 : W1.heap[W0.heap.size + 3]? = some (.map #[] 0) := by rw [hW1]; exact zal (zal (zal (at_new _ _ s9) _) _) _
 have b4 : W1.heap[W0.heap.size + 4]? = some (.cells #[.map (some (W0.heap.size + 3))] 123 (0, 0)) := by rw [hW1]; exact zal (zal (at_new _ _ s9) _) _
 have b5 : W1.heap[W0.heap.size + 5]? = some (.cells #[.int .i64 (N : Int)] 3 (0, 0)) := by rw [hW1]; exact zal (at_new _ _ s9) _
 have b6 : W1.heap[W0.heap.size + 6]? = some (.cells #[.bool back] 4 (0, 0)) := by rw [hW1]; exact at_new _ _ s9
 clear hW1
 refine zfS (n := 5) rfl o9 82 #[.pointer (some ⟨W0.heap.size + 5, 0, none⟩), .pointer (some ⟨W0.heap.size + 6, 0, none⟩)] rfl trivial (zc2 Try.func82 k9 rfl)
  (fun i : Int => #[.int .i64 i]) (fun _ => rfl) (fun k => k = W0.heap.size + 5 ∨ k = W0.heap.size + 6) (fun _ => False) (fun k hk => by rcases hk with rfl | rfl <;> omega) (fun _ h => h.elim)
  (zfp 4 o9 N hN back _ _ W1 b5 b6) (MI ls W0 (.slice A N c) (.slice (some ⟨Bm, 0, none⟩) N cm) back) (fun _ _ _ _ => False) (MI.stable ls W0 _ _ back) (fun _ _ _ _ _ _ h _ _ _ => h.elim) ?_
  (fun x => { tmps := #[.slice A N c, .slice (some ⟨Bm, 0, none⟩) N cm, .bool back, .pointer (some ⟨W0.heap.size, 0, none⟩), .pointer (some ⟨W0.heap.size + 1, 0, none⟩), .pointer (some ⟨W0.heap.size + 1 + 1, 0, none⟩), .pointer (some ⟨W0.heap.size + 1 + 1 + 1 + 1, 0, none⟩), .int .i64 x, undef, undef, undef, undef, undef, .map (some (W0.heap.size + 1 + 1 + 1)), .slice A N c, .int .i64 (N : Int), .bool back, .func (.func 82) #[] #[.pointer (some ⟨W0.heap.size + 5, 0, none⟩), .pointer (some ⟨W0.heap.size + 6, 0, none⟩)], .int .i64 x,
   undef, undef, undef, undef, undef, undef, undef, undef, undef, undef, undef, undef, undef, undef, undef, undef, undef, undef, undef, undef, undef, undef, undef, undef, undef, undef, undef, undef, undef, undef, undef], defers := [] }) ?assign ?body ?done (fun _ _ _ _ _ _ _ _ h _ => h.elim)
 ·
  intro O hO W hW
  have hno : ∀ k, k < W0.heap.size + 5 → ¬ O k := fun k hk e => by rcases hO k e with (h | h) | h <;> omega
  have go : ∀ {b : Nat} {o : Obj}, W1.heap[b]? = some o → b < W0.heap.size + 5 → Mine b o O W := fun h hlt => ⟨hW.at h (fun h => h), hno _ hlt⟩
  exact ⟨go b1 o9, go b0 o9, go b2 o9, go b3 o9, go b4 o9, hmv.trans hW, fun k hk => by rcases hO k hk with (h | h) | h <;> omega⟩
 case assign =>
  intro l x W K hK
  gi_wp2
  exact hK
 case body =>
  intro l pre x O W hI hpre hOl hOlp hrec hOO hsz2
  have hst : fsts ls (pre ++ [x]) = fstep ls (fsts ls pre) x := by simp [fsts]
  obtain ⟨xi, hxi, rfl⟩ : ∃ xi : Nat, xi < N ∧ x = xi := zhq (N := N) (back := back) (hpre.subset s9)
  obtain ⟨fr, bl, ba, mp, sb, mv, own⟩ := hI
  obtain ⟨L, hstE⟩ : ∃ L, L = fsts ls pre := ⟨_, rfl⟩
  rw [← hstE] at mp hst
  have hlt0 : n₀ ≤ W0.heap.size := by omega
  have hlW : RdL n₀ W A N ls := hl.below (mv.below hlt0 (fun k e => e.elim))
  obtain ⟨ad, rfl, hadlt, hx0, hx1, hx2⟩ := hlW xi hxi
  have HST := zaa.mk hst
  have fr2 := zaa.mk fr
  have mp2 := zaa.mk mp
  have sb2 := zaa.mk sb
  have bl2 := zaa.mk bl
  have ba2 := zaa.mk ba
  have mv2 := zaa.mk mv
  have OWN := zaa.mk own
  have HL2 := zaa.mk (hlW.below ((Below.refl n₀ W).drew))
  have HN := zaa.mk (show n₀ ≤ W.drew.heap.size from Nat.le_trans hlt0 mv.size)
  have mvW := zaa.mk (Mv.refl (fun k => ¬ O k) W)
  have HX := zaa.mk (show ∀ {k : Nat} {o : Obj}, W.heap[k]? = some o → k < W.drew.heap.size from fun h => zai h)
  clear hst hstE fr mp sb bl ba mv own hlW hOl hl hBm b0 b1 b2 b3 b4 b5 b6 hmv hrec hOO hmm hlt4 hms hx0 hx1 hx2 hlt0
  gi_wp2
  obtain ⟨W2, rfl⟩ : ∃ W2 : World, W2 = W := ⟨_, rfl⟩
  rcases hfi : zbw keq (lt ls xi) L 0 with _ | ⟨fi, fv⟩
  ·
   have HFI := zaa.mk hfi
   clear hfi
   refine zbU (N := 50) 12 (Box1 128 W2.drew.heap.size) k9 k9 k9 (fun _ _ h => h) rfl (Box1.refl _ _) (Box1.trans) ?_
   rw [show List.range 12 = [0, 1, 2, 3, 4, 5, 6, 7, 8, 9, 10, 11] from rfl]
   refine zaF (.map (some (W0.heap.size + 3))) (Box1.refl _ _) rfl (fun _ _ _ _ => zae rfl) ?_ ?_
   ·
    intro a w' hr hs
    have h5 := hs.out 6 k9
    have hc := zad (hr.at sb2.out.1 (HX.out sb2.out.1)) 0
    go_simp
   refine zaF (.slice (some ad) N c) (Box1.refl _ _) rfl (fun _ _ _ _ => zae rfl) ?_ ?_
   ·
    intro a w' hr hs
    have h5 := hs.out 3 k9
    have hc := zad (hr.at bl2.out.1 (HX.out bl2.out.1)) 0
    go_simp
   refine zaF (.int .i64 xi) (Box1.refl _ _) rfl (fun _ _ _ _ => zae rfl) ?_ ?_
   ·
    intro a w' hr hs
    have h5 := hs.out 7 k9
    go_simp
   refine zaF (.pointer (some (ad.add (xi * 3)))) (Box1.refl _ _) rfl (fun _ _ _ _ => zae rfl) ?_ ?_
   ·
    intro a w' hr hs
    have h5 := hs.get 1 rfl k9 rfl
    have h6 := hs.get 0 rfl k9 rfl
    simp only at h5 h6
    go_simp
   refine zaF (.agg #[.bool (ls xi).1, .string (ls xi).2.1, .int .i64 (ls xi).2.2]) (Box1.refl _ _) rfl (fun _ _ _ _ => zae rfl) ?_ ?_
   ·
    intro a w' hr hs
    have h5 := hs.get 0 rfl k9 rfl
    simp only at h5
    have hu := Try.underlying35
    obtain ⟨ad', e1, _, x0, x1, x2⟩ := (HL2.out.below (hr.mv.below HN.out (fun k h => Nat.le_trans HN.out h))) xi hxi
    cases e1
    go_simp
   refine zbc (fun v _ => v = kenc (lt ls xi)) (fun _ _ _ _ h => h) rfl rfl Try.func72 k9 rfl (fun _ _ _ _ => zae rfl) ?_ ?_
   ·
    intro a w' hr hs
    have h5 := hs.get 0 rfl k9 rfl
    simp only at h5
    have h6 : (#[Operand.tmp 24] : Array Operand).map a.eval = #[.agg #[.bool (ls xi).1, .string (ls xi).2.1, .int .i64 (ls xi).2.2]] := by simp [Act.eval, h5]
    rw [h6]
    refine (zcy _ _ _ _).mono ?_
    rintro e w2 ⟨rfl, hb⟩
    exact ⟨_, rfl, Box1.of_below hb, rfl⟩
   refine zaF ((.tuple #[(venc 0), .bool false])) (Box1.refl _ _) rfl (fun _ _ _ _ => zae rfl) ?_ ?_
   ·
    intro a w' hr hs
    have h5 := hs.get 5 rfl k9 rfl
    have h6 := hs.get 0 rfl k9 rfl
    simp only at h5 h6
    have hlk := zcs (T := 123) zca Try.underlying123 zbE (hr.at mp2.out.1 (HX.out mp2.out.1)) (lt ls xi)
    rw [HFI.out] at hlk
    simp only at hlk
    go_simp
   refine zaF ((.tuple #[(venc 0), .bool false])) (Box1.refl _ _) rfl (fun _ _ _ _ => zae rfl) ?_ ?_
   ·
    intro a w' hr hs
    have h5 := hs.get 0 rfl k9 rfl
    simp only at h5
    go_simp
   refine zaF ((venc 0)) (Box1.refl _ _) rfl (fun _ _ _ _ => zae rfl) ?_ ?_
   ·
    intro a w' hr hs
    have h5 := hs.get 0 rfl k9 rfl
    simp only at h5
    go_simp
   refine zaF (.bool false) (Box1.refl _ _) rfl (fun _ _ _ _ => zae rfl) ?_ ?_
   ·
    intro a w' hr hs
    have h5 := hs.get 1 rfl k9 rfl
    simp only at h5
    go_simp
   refine ze2 (fun v w => ∃ g, v = .pointer (some ⟨g, 0, none⟩) ∧ W2.drew.heap.size ≤ g ∧ ∃ c, w.heap[g]? = some (.cells #[c] 128 (0, 0))) (fun v w w' hr h => by obtain ⟨g, h1, h2, c, h3⟩ := h; exact ⟨g, h1, h2, hr.box g c h2 h3⟩) rfl (fun _ _ _ _ => zae rfl) ?_ ?_
   ·
    intro a w' hr hs
    refine ⟨.pointer (some ⟨w'.heap.size, 0, none⟩), w'.alloc (.cells #[.int .i64 0] 128), ?_, ⟨(Mv.refl _ _).alloc _, fun g c _ h => ⟨c, zal h _⟩⟩, ⟨_, rfl, hr.mv.size, _, at_new _ _ rfl⟩⟩
    have hz := zbE
    unfold venc at hz
    go_simp
   refine zdu (fun _ => True) (fun _ _ _ _ => trivial) rfl (fun _ _ _ _ => zae rfl) ?_ ?_
   ·
    intro a w' hr hs
    obtain ⟨g, h1, h2, c, h3⟩ := hs.get 0 rfl k9 rfl
    have h4 := hs.get 2 rfl k9 rfl
    simp only at h1 h4
    have hc := zad h3 0
    have hf := free_at h3 0
    have hu := Try.underlying128
    refine ⟨w'.setCell ⟨g, 0, none⟩ (.int .i64 0), ?_, ⟨(Mv.refl _ _).setCell (.inl h2) _, fun g' c' hg' h' => ?_⟩, trivial⟩
    ·
     unfold venc at h4
     go_simp
    ·
     by_cases hgg : g' = g
     ·
      subst hgg; exact ⟨_, by simpa using zcK h' 0 _⟩
     ·
      exact ⟨c', at_set h' hgg _⟩
   intro vs w3 hr hE
   rw [show List.range 12 = [0, 1, 2, 3, 4, 5, 6, 7, 8, 9, 10, 11] from rfl]
   simp only [List.mem_cons, List.not_mem_nil, or_false, forall_eq_or_imp, forall_eq] at hE
   obtain ⟨_, ⟨gx, hg1, hg2, _⟩, g9, g8, g7, g6, g5, g4, g3, g2, g1, g0⟩ := hE
   simp only [putL, zaU, List.getElem?_toArray, List.getElem?_cons_succ, List.getElem?_cons_zero, Option.bind_some, Act.put, List.setIfInBounds_toArray, List.set_cons_succ, List.set_cons_zero, hg1, g9, g8, g7, g6, g5, g4, g3, g2, g1, g0]
   refine zc4 (i := 12) (r := []) (w' := w3) (.bool false) rfl (zae rfl) q9 (zaX ?_)
   clear hg1 g9 g8 g7 g6 g5 g4 g3 g2 g1 g0
   simp only [Act.put, List.setIfInBounds_toArray, List.set_cons_succ, List.set_cons_zero]
   have hXX : ∀ {k : Nat} {o : Obj}, Mine k o O W2 → Mine k o O w3 := fun h => ⟨hr.at h.1 (HX.out h.1), h.2⟩
   have mv3 := zaa.mk (mv2.out.drew.trans (hr.mv.mono (fun k h1 h2 => absurd h1 (Nat.not_lt.2 h2))))
   have mvW3 := zaa.mk (mvW.out.drew.trans (hr.mv.mono (fun k h1 h2 => absurd h1 (Nat.not_lt.2 h2))))
   have fr3 := zaa.mk (hXX fr2.out)
   have mp3 := zaa.mk (hXX mp2.out)
   have sb3 := zaa.mk (hXX sb2.out)
   have ba3 := zaa.mk (hXX ba2.out)
   have bl3 := zaa.mk (hXX bl2.out)
   have HL3 := zaa.mk ((HL2.out.below (hr.mv.below HN.out (fun k h => Nat.le_trans HN.out h))).below ((Below.refl n₀ w3).drew))
   have HN3 := zaa.mk (Nat.le_trans HN.out hr.mv.size)
   clear hXX hr
   gi_wp2
   refine zbU (N := 50) 8 (Box1 128 w3.drew.heap.size) k9 k9 k9 (fun _ _ h => h) rfl (Box1.refl _ _) (Box1.trans) ?_
   rw [show List.range 8 = [0, 1, 2, 3, 4, 5, 6, 7] from rfl]
   refine zaF (.map (some (W0.heap.size + 3))) (Box1.refl _ _) rfl (fun _ _ _ _ => zae rfl) ?_ ?_
   ·
    intro a w' hr hs
    have h5 := hs.out 6 k9
    have hc := zad (hr.at sb3.out.1 (zai sb3.out.1)) 0
    go_simp
   refine zaF (.slice (some ad) N c) (Box1.refl _ _) rfl (fun _ _ _ _ => zae rfl) ?_ ?_
   ·
    intro a w' hr hs
    have h5 := hs.out 3 k9
    have hc := zad (hr.at bl3.out.1 (zai bl3.out.1)) 0
    go_simp
   refine zaF (.int .i64 xi) (Box1.refl _ _) rfl (fun _ _ _ _ => zae rfl) ?_ ?_
   ·
    intro a w' hr hs
    have h5 := hs.out 7 k9
    go_simp
   refine zaF (.pointer (some (ad.add (xi * 3)))) (Box1.refl _ _) rfl (fun _ _ _ _ => zae rfl) ?_ ?_
   ·
    intro a w' hr hs
    have h5 := hs.get 1 rfl k9 rfl
    have h6 := hs.get 0 rfl k9 rfl
    simp only at h5 h6
    go_simp
   refine zaF (.agg #[.bool (ls xi).1, .string (ls xi).2.1, .int .i64 (ls xi).2.2]) (Box1.refl _ _) rfl (fun _ _ _ _ => zae rfl) ?_ ?_
   ·
    intro a w' hr hs
    have h5 := hs.get 0 rfl k9 rfl
    simp only at h5
    have hu := Try.underlying35
    obtain ⟨ad', e1, _, x0, x1, x2⟩ := (HL3.out.below (hr.mv.below HN3.out (fun k h => Nat.le_trans HN3.out h))) xi hxi
    cases e1
    go_simp
   refine zbc (fun v _ => v = kenc (lt ls xi)) (fun _ _ _ _ h => h) rfl rfl Try.func72 k9 rfl (fun _ _ _ _ => zae rfl) ?_ ?_
   ·
    intro a w' hr hs
    have h5 := hs.get 0 rfl k9 rfl
    simp only at h5
    have h6 : (#[Operand.tmp 35] : Array Operand).map a.eval = #[.agg #[.bool (ls xi).1, .string (ls xi).2.1, .int .i64 (ls xi).2.2]] := by simp [Act.eval, h5]
    rw [h6]
    refine (zcy _ _ _ _).mono ?_
    rintro e w2 ⟨rfl, hb⟩
    exact ⟨_, rfl, Box1.of_below hb, rfl⟩
   refine zaF (.int .i64 xi) (Box1.refl _ _) rfl (fun _ _ _ _ => zae rfl) ?_ ?_
   ·
    intro a w' hr hs
    have h5 := hs.out 7 k9
    go_simp
   refine zaF (venc xi) (Box1.refl _ _) rfl (fun _ _ _ _ => zae rfl) ?_ ?_
   ·
    intro a w' hr hs
    have h5 := hs.get 0 rfl k9 rfl
    simp only at h5
    have hu := Try.underlying128
    unfold venc
    go_simp
   intro vs w4 hr hE
   rw [show List.range 8 = [0, 1, 2, 3, 4, 5, 6, 7] from rfl]
   simp only [List.mem_cons, List.not_mem_nil, or_false, forall_eq_or_imp, forall_eq] at hE
   obtain ⟨g7, g6, g5, g4, g3, g2, g1, g0⟩ := hE
   simp only [putL, zaU, List.getElem?_toArray, List.getElem?_cons_succ, List.getElem?_cons_zero, Option.bind_some, Act.put, List.setIfInBounds_toArray, List.set_cons_succ, List.set_cons_zero, g7, g6, g5, g4, g3, g2, g1, g0]
   clear g7 g6 g5 g4 g3 g2 g1 g0
   have hXX : ∀ {k : Nat} {o : Obj}, Mine k o O w3 → Mine k o O w4 := fun h => ⟨hr.at h.1 (zai h.1), h.2⟩
   have hup := zdk (P := Try.prog) (T := 123) zca Try.underlying123 (hXX mp3.out).1 (lt ls xi) (xi : Int)
   obtain ⟨w5, hw5⟩ : ∃ w5 : World, w5 = w4.putObj (W0.heap.size + 3) (zbR kenc venc (upd keq (lt ls xi) (xi : Int) L.length L).1 (upd keq (lt ls xi) (xi : Int) L.length L).2) := ⟨_, rfl⟩
   rw [← hw5] at hup
   have hUP := hup
   refine zcQ (i := 8) (r := []) (w' := w5) rfl (zae rfl) q9 (zaX ?_)
   have mv4 := zaa.mk (show Mv (fun _ => False) W0 w5 by rw [hw5]; exact (mv3.out.drew.trans (hr.mv.mono (fun k h1 h2 => absurd h1 (Nat.not_lt.2 h2)))).putObj (.inr o9) _)
   have mvW4 := zaa.mk (show Mv (fun k => ¬ O k) W2 w5 by rw [hw5]; exact (mvW3.out.drew.trans (hr.mv.mono (fun k h1 h2 => absurd h1 (Nat.not_lt.2 h2)))).putObj (.inl mp3.out.2) _)
   have fr4 := zaa.mk (show Mine _ _ O w5 by rw [hw5]; exact (hXX fr3.out).put o9 _)
   have mp4 := zaa.mk (show Mine _ _ O w5 by rw [hw5]; exact ⟨World.putObj_heap_same (zai (hXX mp3.out).1), mp3.out.2⟩)
   have sb4 := zaa.mk (show Mine _ _ O w5 by rw [hw5]; exact (hXX sb3.out).put o9 _)
   have ba4 := zaa.mk (show Mine _ _ O w5 by rw [hw5]; exact (hXX ba3.out).put o9 _)
   have bl4 := zaa.mk (show Mine _ _ O w5 by rw [hw5]; exact (hXX bl3.out).put o9 _)
   clear hXX hr hup hUP hw5
   have hs : fsts ls (pre ++ [(xi : Int)]) = L ++ [(lt ls xi, (xi : Int), L.length)] := by rw [HST.out]; simp [fstep, HFI.out]
   have hupd : upd keq (lt ls xi) (xi : Int) L.length L = (L ++ [(lt ls xi, (xi : Int), L.length)], L.length + 1) := by simp [upd, HFI.out]
   have mp5 : Mine (W0.heap.size + 3) (zbR kenc venc (L ++ [(lt ls xi, (xi : Int), L.length)]) (L ++ [(lt ls xi, (xi : Int), L.length)]).length) O w5 := by
    have := mp4.out
    rw [hupd] at this
    simpa using this
   simp only [Act.put, List.setIfInBounds_toArray, List.set_cons_succ, List.set_cons_zero]
   gi_wp2
   exact ⟨mvW4.out.mono (fun k _ h => by simpa using h), MI.of hs fr4.out bl4.out ba4.out mp5 sb4.out mv4.out OWN.out⟩
  ·
   have HFI := zaa.mk hfi
   clear hfi
   refine zbU (N := 50) 12 (Box1 128 W2.drew.heap.size) k9 k9 k9 (fun _ _ h => h) rfl (Box1.refl _ _) (Box1.trans) ?_
   rw [show List.range 12 = [0, 1, 2, 3, 4, 5, 6, 7, 8, 9, 10, 11] from rfl]
   refine zaF (.map (some (W0.heap.size + 3))) (Box1.refl _ _) rfl (fun _ _ _ _ => zae rfl) ?_ ?_
   ·
    intro a w' hr hs
    have h5 := hs.out 6 k9
    have hc := zad (hr.at sb2.out.1 (HX.out sb2.out.1)) 0
    go_simp
   refine zaF (.slice (some ad) N c) (Box1.refl _ _) rfl (fun _ _ _ _ => zae rfl) ?_ ?_
   ·
    intro a w' hr hs
    have h5 := hs.out 3 k9
    have hc := zad (hr.at bl2.out.1 (HX.out bl2.out.1)) 0
    go_simp
   refine zaF (.int .i64 xi) (Box1.refl _ _) rfl (fun _ _ _ _ => zae rfl) ?_ ?_
   ·
    intro a w' hr hs
    have h5 := hs.out 7 k9
    go_simp
   refine zaF (.pointer (some (ad.add (xi * 3)))) (Box1.refl _ _) rfl (fun _ _ _ _ => zae rfl) ?_ ?_
   ·
    intro a w' hr hs
    have h5 := hs.get 1 rfl k9 rfl
    have h6 := hs.get 0 rfl k9 rfl
    simp only at h5 h6
    go_simp
   refine zaF (.agg #[.bool (ls xi).1, .string (ls xi).2.1, .int .i64 (ls xi).2.2]) (Box1.refl _ _) rfl (fun _ _ _ _ => zae rfl) ?_ ?_
   ·
    intro a w' hr hs
    have h5 := hs.get 0 rfl k9 rfl
    simp only at h5
    have hu := Try.underlying35
    obtain ⟨ad', e1, _, x0, x1, x2⟩ := (HL2.out.below (hr.mv.below HN.out (fun k h => Nat.le_trans HN.out h))) xi hxi
    cases e1
    go_simp
   refine zbc (fun v _ => v = kenc (lt ls xi)) (fun _ _ _ _ h => h) rfl rfl Try.func72 k9 rfl (fun _ _ _ _ => zae rfl) ?_ ?_
   ·
    intro a w' hr hs
    have h5 := hs.get 0 rfl k9 rfl
    simp only at h5
    have h6 : (#[Operand.tmp 24] : Array Operand).map a.eval = #[.agg #[.bool (ls xi).1, .string (ls xi).2.1, .int .i64 (ls xi).2.2]] := by simp [Act.eval, h5]
    rw [h6]
    refine (zcy _ _ _ _).mono ?_
    rintro e w2 ⟨rfl, hb⟩
    exact ⟨_, rfl, Box1.of_below hb, rfl⟩
   refine zaF ((.tuple #[(venc fv), .bool true])) (Box1.refl _ _) rfl (fun _ _ _ _ => zae rfl) ?_ ?_
   ·
    intro a w' hr hs
    have h5 := hs.get 5 rfl k9 rfl
    have h6 := hs.get 0 rfl k9 rfl
    simp only at h5 h6
    have hlk := zcs (T := 123) zca Try.underlying123 zbE (hr.at mp2.out.1 (HX.out mp2.out.1)) (lt ls xi)
    rw [HFI.out] at hlk
    simp only at hlk
    go_simp
   refine zaF ((.tuple #[(venc fv), .bool true])) (Box1.refl _ _) rfl (fun _ _ _ _ => zae rfl) ?_ ?_
   ·
    intro a w' hr hs
    have h5 := hs.get 0 rfl k9 rfl
    simp only at h5
    go_simp
   refine zaF ((venc fv)) (Box1.refl _ _) rfl (fun _ _ _ _ => zae rfl) ?_ ?_
   ·
    intro a w' hr hs
    have h5 := hs.get 0 rfl k9 rfl
    simp only at h5
    go_simp
   refine zaF (.bool true) (Box1.refl _ _) rfl (fun _ _ _ _ => zae rfl) ?_ ?_
   ·
    intro a w' hr hs
    have h5 := hs.get 1 rfl k9 rfl
    simp only at h5
    go_simp
   refine ze2 (fun v w => ∃ g, v = .pointer (some ⟨g, 0, none⟩) ∧ W2.drew.heap.size ≤ g ∧ ∃ c, w.heap[g]? = some (.cells #[c] 128 (0, 0))) (fun v w w' hr h => by obtain ⟨g, h1, h2, c, h3⟩ := h; exact ⟨g, h1, h2, hr.box g c h2 h3⟩) rfl (fun _ _ _ _ => zae rfl) ?_ ?_
   ·
    intro a w' hr hs
    refine ⟨.pointer (some ⟨w'.heap.size, 0, none⟩), w'.alloc (.cells #[.int .i64 0] 128), ?_, ⟨(Mv.refl _ _).alloc _, fun g c _ h => ⟨c, zal h _⟩⟩, ⟨_, rfl, hr.mv.size, _, at_new _ _ rfl⟩⟩
    have hz := zbE
    unfold venc at hz
    go_simp
   refine zdu (fun _ => True) (fun _ _ _ _ => trivial) rfl (fun _ _ _ _ => zae rfl) ?_ ?_
   ·
    intro a w' hr hs
    obtain ⟨g, h1, h2, c, h3⟩ := hs.get 0 rfl k9 rfl
    have h4 := hs.get 2 rfl k9 rfl
    simp only at h1 h4
    have hc := zad h3 0
    have hf := free_at h3 0
    have hu := Try.underlying128
    refine ⟨w'.setCell ⟨g, 0, none⟩ (.int .i64 fv), ?_, ⟨(Mv.refl _ _).setCell (.inl h2) _, fun g' c' hg' h' => ?_⟩, trivial⟩
    ·
     unfold venc at h4
     go_simp
    ·
     by_cases hgg : g' = g
     ·
      subst hgg; exact ⟨_, by simpa using zcK h' 0 _⟩
     ·
      exact ⟨c', at_set h' hgg _⟩
   intro vs w3 hr hE
   rw [show List.range 12 = [0, 1, 2, 3, 4, 5, 6, 7, 8, 9, 10, 11] from rfl]
   simp only [List.mem_cons, List.not_mem_nil, or_false, forall_eq_or_imp, forall_eq] at hE
   obtain ⟨_, ⟨gx, hg1, hg2, _⟩, g9, g8, g7, g6, g5, g4, g3, g2, g1, g0⟩ := hE
   simp only [putL, zaU, List.getElem?_toArray, List.getElem?_cons_succ, List.getElem?_cons_zero, Option.bind_some, Act.put, List.setIfInBounds_toArray, List.set_cons_succ, List.set_cons_zero, hg1, g9, g8, g7, g6, g5, g4, g3, g2, g1, g0]
   refine zc4 (i := 12) (r := []) (w' := w3) (.bool true) rfl (zae rfl) q9 (zaX ?_)
   clear hg1 g9 g8 g7 g6 g5 g4 g3 g2 g1 g0
   simp only [Act.put, List.setIfInBounds_toArray, List.set_cons_succ, List.set_cons_zero]
   have hXX : ∀ {k : Nat} {o : Obj}, Mine k o O W2 → Mine k o O w3 := fun h => ⟨hr.at h.1 (HX.out h.1), h.2⟩
   have mv3 := zaa.mk (mv2.out.drew.trans (hr.mv.mono (fun k h1 h2 => absurd h1 (Nat.not_lt.2 h2))))
   have mvW3 := zaa.mk (mvW.out.drew.trans (hr.mv.mono (fun k h1 h2 => absurd h1 (Nat.not_lt.2 h2))))
   have fr3 := zaa.mk (hXX fr2.out)
   have mp3 := zaa.mk (hXX mp2.out)
   have sb3 := zaa.mk (hXX sb2.out)
   have ba3 := zaa.mk (hXX ba2.out)
   have bl3 := zaa.mk (hXX bl2.out)
   have HL3 := zaa.mk ((HL2.out.below (hr.mv.below HN.out (fun k h => Nat.le_trans HN.out h))).below ((Below.refl n₀ w3).drew))
   have HN3 := zaa.mk (Nat.le_trans HN.out hr.mv.size)
   clear hXX hr
   gi_wp2
   have hs : fsts ls (pre ++ [(xi : Int)]) = L := by rw [HST.out]; simp [fstep, HFI.out]
   exact ⟨mvW3.out.mono (fun k _ h => by simpa using h), MI.of hs fr3.out bl3.out ba3.out mp3.out sb3.out mv3.out OWN.out⟩
 case done =>
  intro D xs O W hD hOD hOl hS hI hK
  subst hS
  obtain ⟨fr, bl, ba, mp, sb, mv, own⟩ := hI
  obtain ⟨F, hF⟩ : ∃ F, F = fsts ls (idxs N back) := ⟨_, rfl⟩
  have hborn := ziN ls (idxs N back)
  rw [← hF] at mp hborn
  have hnd : (F.map (·.2.2)).Nodup := by rw [hborn]; exact List.nodup_range
  have hlt : ∀ e ∈ F, e.2.2 < F.length := fun e he => by
   have : e.2.2 ∈ F.map (·.2.2) := List.mem_map.2 ⟨e, he, rfl⟩
   rw [hborn] at this; exact List.mem_range.1 this
  have hfin : ∀ (seen : Array Nat), left seen F = [] → rowAt ls N back F ms (fun b => seen.contains b) = marked ls N back ms := fun seen hs => by
   unfold marked
   rw [← hF, ziZ ls N back F ms _ (fun e he => ?_)]
   have h2 := List.filter_eq_nil_iff.1 hs e he
   simpa using h2
  have rowm : W.heap[Bm]? = some (.cells (ms.map Value.bool).toArray 100 (0, 0)) := mv.at hBm (fun h => h)
  have hlW : RdL n₀ W A N ls := hl.below (mv.below o9 (fun k e => e.elim))
  have hW0 : W0.heap.size ≤ W.heap.size := mv.size
  have q0 := zai bl.1
  have q1 := zai fr.1
  have q2 := zai ba.1
  have q3 := zai mp.1
  have q4 := zai sb.1
  have q5 := zai hK
  have hDW : W0.heap.size + 4 < D := by omega
  have hDB : D ≠ Bm := by omega
  have hn0W : n₀ ≤ W.heap.size := by omega
  have HN0W := zaa.mk hn0W
  have HDB := zaa.mk hDB
  clear hn0W hDB
  have c4 := zad sb.1 0
  simp only [List.getElem?_toArray, List.getElem?_cons_zero] at c4
  have hrange := ziE (P := Try.prog) (T := 123) Try.underlying123 mp.1
  have HF := zaa.mk hF
  have HND := zaa.mk hnd
  have HLT2 := zaa.mk hlt
  have HFIN := zaa.mk hfin
  have BL := zaa.mk bl.1
  have FR := zaa.mk fr.1
  have BA := zaa.mk ba.1
  have MP := zaa.mk mp.1
  have ROW := zaa.mk rowm
  have MV := zaa.mk (mv.mono (O' := fun k => k = Bm) (fun _ _ h => h.elim))
  have HK := zaa.mk hK
  have HLW := zaa.mk hlW
  have HMS := zaa.mk hms
  have HBM := zaa.mk hlt4
  clear hF hborn hnd hlt hfin bl fr ba mp sb rowm mv own hK hlW hl hBm b0 b1 b2 b3 b4 b5 b6 hmv hmm hOl hms hlt4
  gi_wp2
  obtain ⟨W2, hW2⟩ : ∃ W2 : World, W2 = W.alloc (.mapIter (some (W0.heap.size + 3)) F.length #[] F.length) := ⟨_, rfl⟩
  obtain ⟨R, hR⟩ : ∃ R : Nat, R = W.heap.size := ⟨_, rfl⟩
  rw [← hW2]
  try rw [← hR]
  gi_loopw [42] (fun _ wr => ∃ seen : Array Nat, zaa (wr.heap[R]? = some (.mapIter (some (W0.heap.size + 3)) F.length seen F.length) ∧ Mv (fun k => k = Bm) W0 wr ∧ wr.heap[W0.heap.size]? = some (.cells #[.slice A N c] 25 (0, 0)) ∧ wr.heap[W0.heap.size + 1]? = some (.cells #[.slice (some ⟨Bm, 0, none⟩) N cm] 97 (0, 0)) ∧
    wr.heap[W0.heap.size + 2]? = some (.cells #[.bool back] 4 (0, 0)) ∧ wr.heap[W0.heap.size + 3]? = some (zbR kenc venc F F.length) ∧ wr.heap[D]? = some (.deferred (some [])) ∧ RdL n₀ wr A N ls ∧
    wr.heap[Bm]? = some (.cells ((rowAt ls N back F ms (fun b => seen.contains b)).map Value.bool).toArray 100 (0, 0))))
   (fun _ wr => (left (seenAt R wr) F).length)
  case atStart =>
   refine ⟨#[], ⟨?_, ?_, ?_, ?_, ?_, ?_, ?_, ?_, ?_⟩⟩
   ·
    rw [hW2, hR]; exact at_new _ _ rfl
   ·
    rw [hW2]; exact MV.out.alloc _
   ·
    rw [hW2]; exact zal BL.out _
   ·
    rw [hW2]; exact zal FR.out _
   ·
    rw [hW2]; exact zal BA.out _
   ·
    rw [hW2]; exact zal MP.out _
   ·
    rw [hW2]; exact zal HK.out _
   ·
    rw [hW2]; exact HLW.out.below ((Below.refl n₀ W).alloc HN0W.out _)
   ·
    rw [hW2]
    have h0 : (fun b => (#[] : Array Nat).contains b) = fun _ => false := by funext b; simp
    rw [h0, zg1 ls N back F ms HMS.out]
    exact zal ROW.out _
  case round =>
   have HRL := zaa.mk (show W0.heap.size + 4 < R ∧ Bm ≠ R ∧ D ≠ R ∧ n₀ ≤ R from by rw [hR]; exact ⟨q4, fun e => by have := zai ROW.out; omega, fun e => by omega, HN0W.out⟩)
   clear hW2 hR BL FR BA MP ROW MV HK HLW hrange c4 q0 q1 q2 q3 q4 q5
   obtain ⟨seen, ⟨hit, mv, bl, fr, ba, mp, hd, hlw, row⟩⟩ := hrel
   have hnx := zka (P := Try.prog) 0 mp hit HLT2.out
   by_cases hleft : left seen F = []
   ·
    have hnext := hnx.1 hleft
    have HROW := zaa.mk row
    have HMV := zaa.mk mv
    have HD := zaa.mk hd
    have HLE := zaa.mk hleft
    clear hnx hleft hit mv bl fr ba mp hd hlw row
    gi_wp2
    refine ⟨by simp, .inl ⟨_, _, rfl, run_takeDeferred HD.out, ?_⟩⟩
    refine ⟨_, results_none rfl _ _ _, rfl, HMV.out.putObj (.inr o9) _, ?_⟩
    have := HROW.out
    rw [HFIN.out seen HLE.out] at this
    exact zcP this (fun e => HDB.out e.symm) _
   ·
    obtain ⟨e, he, w1, hw1, hnext⟩ := hnx.2 hleft
    obtain ⟨w2, hw2⟩ : ∃ w2 : World, w2 = w1.putObj R (.mapIter (some (W0.heap.size + 3)) F.length (seen.push e.2.2) F.length) := ⟨_, rfl⟩
    have hwr : ∀ {k : Nat} {o : Obj}, wr.heap[k]? = some o → k ≠ R → w2.heap[k]? = some o := fun h hk => by rw [hw2]; rcases hw1 with rfl | rfl <;> exact zcP h hk _
    obtain ⟨r1, r2, r3, r4⟩ := HRL.out
    have hit2 : w2.heap[R]? = some (.mapIter (some (W0.heap.size + 3)) F.length (seen.push e.2.2) F.length) := by rw [hw2]; exact World.putObj_heap_same (by rcases hw1 with rfl | rfl <;> exact zai hit)
    have hs2 : wr.heap.size ≤ w2.heap.size := by rw [hw2]; rcases hw1 with rfl | rfl <;> simp
    have mv2 : Mv (fun k => k = Bm) W0 w2 := by
     rw [hw2]
     refine Mv.putObj ?_ (.inr o9) _
     rcases hw1 with rfl | rfl
     ·
      exact mv
     ·
      exact mv.drew
    have hl2 : RdL n₀ w2 A N ls := hlw.below (by rw [hw2]; rcases hw1 with rfl | rfl; exact ((Mv.refl (fun k => k = R) _).putObj (.inl rfl) _).below (by have := zai hit; omega) (fun k h => by omega); exact ((Mv.refl (fun k => k = R) _).drew.putObj (.inl rfl) _).below (by have := zai hit; omega) (fun k h => by omega))
    have hent := ziX (P := Try.prog) (hwr mp o9) hit2 (List.mem_filter.1 he).1 HND.out
    rw [← hw2] at hnext
    have bl2 := hwr bl o9
    have fr2 := hwr fr o9
    have ba2 := hwr ba o9
    have mp2 := hwr mp o9
    have hd2 := hwr hd r3
    have row2 := hwr row r2
    have hz := zbE
    unfold venc at hz hnext hent
    have hu := Try.underlying128
    have BL := zaa.mk bl2
    have FR := zaa.mk fr2
    have BA := zaa.mk ba2
    have MP := zaa.mk mp2
    have HD := zaa.mk hd2
    have ROW := zaa.mk row2
    have MV := zaa.mk mv2
    have HLW := zaa.mk hl2
    have IT := zaa.mk hit2
    have HE := zaa.mk he
    have HSE := zaa.mk (show seenAt R wr = seen by unfold seenAt; rw [hit])
    clear hnx hleft hit mv bl fr ba mp hd hlw row hw1 hw2 hwr r1 r2 r3 r4 hit2 hs2 mv2 hl2 bl2 fr2 ba2 mp2 hd2 row2 he
    gi_wp2
    have hq1 := zai BL.out
    have hq2 := HBM.out
    have hlen : (rowAt ls N back F ms (fun b => seen.contains b)).length = N := by simp [rowAt]
    refine ⟨trivial, ((callsIn_wide (n := 4)).2 (zh7 n₀ N c hN A ls back e.2.1 (rowAt ls N back F ms (fun b => seen.contains b)) hlen (w2.alloc (.cells #[.int .i64 e.2.1] 128)) W0.heap.size (W0.heap.size + 1 + 1) (W0.heap.size + 1) Bm cm
     (HLW.out.below ((Below.refl n₀ w2).alloc o9 _)) hn₀ o9 o9 o9 (zal BL.out _) (zal BA.out _) (zal FR.out _) (zal ROW.out _))).mono ?_⟩
    rintro e' w4 ⟨rfl, hm4, hrow4⟩
    have HM4 := zaa.mk hm4
    have HROW4 := zaa.mk hrow4
    have HQ := zaa.mk (And.intro hq1 hq2)
    have HWR := zaa.mk (show ∀ {k : Nat} {o : Obj}, w2.heap[k]? = some o → k ≠ Bm → w4.heap[k]? = some o from fun h hk => hm4.at (zal h _) hk)
    clear hm4 hrow4 hlen hent hnext hq1 hq2
    gi_wp2
    go_roundw
    case rel =>
     obtain ⟨r1, r2, r3, r4⟩ := HRL.out
     obtain ⟨hq1, hq2⟩ := HQ.out
     refine ⟨seen.push e.2.2, ⟨HWR.out IT.out (fun e => r2 e.symm), (MV.out.alloc _).trans HM4.out, HWR.out BL.out o9, HWR.out FR.out o9, HWR.out BA.out o9, HWR.out MP.out o9, HWR.out HD.out HDB.out, ?_, ?_⟩⟩
     ·
      exact HLW.out.below (((Below.refl n₀ w2).alloc o9 _).trans (HM4.out.below (by simp; omega) (fun k h => by omega)))
     ·
      have h1 : (fun b => (seen.push e.2.2).contains b) = fun b => seen.contains b || b == e.2.2 := by
       funext b
       by_cases hb : b = e.2.2 <;> simp [hb, Array.contains_push]
      rw [h1, ← zic ls N back F ms _ e (List.mem_filter.1 HE.out).1 HND.out]
      exact HROW4.out
    case measure =>
     have h1 : seenAt R w4 = seen.push e.2.2 := by unfold seenAt; rw [HWR.out IT.out (fun e => HRL.out.2.1 e.symm)]
     rw [h1, HSE.out]
     exact zjk HE.out
end Go.Proofs.YtinkbljjpafadaaHChain
end

section
namespace Go.Proofs.YtinkbljjpafadaaRG
open Go.RowKit Go.Proofs.YtinkbljjpafadaaW.PrintLast Go.Proofs.YtinkbljjpafadaaW.PrintWords Go.Proofs.YtinkbljjpafadaaRF
section
variable {P : Program} {ops : Array Oper} {Q : Exit → Act → World → Prop} {ρ : World → World → Prop} {a0 : Act} {w0 : World} {m : Nat}
def rgOkT (ops : Array Oper) (m N : Nat) : Bool :=
 decide (m ≤ ops.size) && ((List.range m).filterMap (zaU ops)).all (fun t => decide (t < N)) && nodupB ((List.range m).filterMap (zaU ops))
theorem zgH {ops : Array Oper} : ∀ (l : List Nat), l.Nodup → nodupB (l.filterMap (zaU ops)) = true → ∀ j k, j ∈ l → k ∈ l → ∀ t, zaU ops j = some t → zaU ops k = some t → j = k := by
 intro l
 induction l with
 | nil => intro _ _ j k hj; simp at hj
 | cons x r ih =>
  intro hn hb j k hj hk t htj htk
  have hn' := List.nodup_cons.1 hn
  cases hx : zaU ops x with
  | none =>
   simp only [List.filterMap_cons, hx] at hb
   rcases List.mem_cons.1 hj with rfl | hj
   ·
    rw [hx] at htj; cases htj
   rcases List.mem_cons.1 hk with rfl | hk
   ·
    rw [hx] at htk; cases htk
   exact ih hn'.2 hb j k hj hk t htj htk
  | some s =>
   simp only [List.filterMap_cons, hx, nodupB, Bool.and_eq_true, Bool.not_eq_true', List.contains_eq_mem, decide_eq_false_iff_not] at hb
   have hno : ∀ y, y ∈ r → zaU ops y ≠ some s := fun y hy hs => hb.1 (List.mem_filterMap.2 ⟨y, hy, hs⟩)
   rcases List.mem_cons.1 hj with hj0 | hj1
   ·
    rcases List.mem_cons.1 hk with hk0 | hk1
    ·
     rw [hj0, hk0]
    ·
     rw [hj0, hx] at htj; cases htj; exact absurd htk (hno k hk1)
   ·
    rcases List.mem_cons.1 hk with hk0 | hk1
    ·
     rw [hk0, hx] at htk; cases htk; exact absurd htj (hno j hj1)
    ·
     exact ih hn'.2 hb.2 j k hj1 hk1 t htj htk
theorem zhw (vs : Nat → Value) : ∀ (l r : List Nat) (a : Act), putL ops vs (l ++ r) a = putL ops vs r (putL ops vs l a)
 | [], _, _ => rfl
 | _ :: l, r, _ => zhw vs l r _
theorem zfd {vs vs' : Nat → Value} : ∀ (l : List Nat) (a : Act), (∀ j ∈ l, vs j = vs' j) → putL ops vs l a = putL ops vs' l a
 | [], _, _ => rfl
 | j :: l, a, h => by
  rw [putL, putL, h j List.mem_cons_self]
  exact zfd l _ (fun k hk => h k (List.mem_cons_of_mem _ hk))
theorem zjS {N : Nat} (hok : rgOkT ops m N = true) (hN : a0.tmps.size = N) (hrefl : ∀ w, ρ w w) (htrans : ∀ {A B C}, ρ A B → ρ B C → ρ A C) :
  ∀ (l : List Nat) (E : Env) (done : List Nat) (vs : Nat → Value) (w : World), done ++ l = List.range m → (∀ p ∈ E, p.1 ∈ done) → ρ w0 w → (∀ p ∈ E, p.2 (vs p.1) w) → (∀ p ∈ E, ∀ v w w', ρ w w' → p.2 v w → p.2 v w') →
  RG P ops Q ρ a0 w0 m E l → wpOps P ops Q (l ++ List.range' m (ops.size - m)) (putL ops vs done a0) w := by
 simp only [rgOkT, Bool.and_eq_true, decide_eq_true_eq] at hok
 obtain ⟨⟨h1, h2⟩, h3⟩ := hok
 have hsl : ∀ j, j < m → ∀ t, zaU ops j = some t → t < N := fun j hj t ht => by
  have := List.all_eq_true.1 h2 t (List.mem_filterMap.2 ⟨j, List.mem_range.2 hj, ht⟩)
  simpa using this
 have hun : ∀ j k, j < m → k < m → ∀ t, zaU ops j = some t → zaU ops k = some t → j = k := fun j k hj hk t ht ht' => zgH _ List.nodup_range h3 j k (List.mem_range.2 hj) (List.mem_range.2 hk) t ht ht'
 intro l
 induction l with
 | nil =>
  intro E done vs w hd hE hρ hf _ h
  rw [List.append_nil] at hd
  subst hd
  exact h vs w hρ hf
 | cons i r ih =>
  intro E done vs w hd hE hρ hf hst h
  obtain ⟨φ, hs, ho, h⟩ := h
  have hdm : ∀ j ∈ done, j < m := fun j hj => List.mem_range.1 (hd ▸ List.mem_append_left _ hj)
  have him : i < m := List.mem_range.1 (hd ▸ List.mem_append_right _ List.mem_cons_self)
  have hin : i ∉ done := fun hi => by
   have hn : (done ++ i :: r).Nodup := hd ▸ List.nodup_range
   exact (List.nodup_append.1 hn).2.2 i hi i List.mem_cons_self rfl
  have hi : i < ops.size := by omega
  have hse : Seen ops a0 m E i (putL ops vs done a0) w := by
   refine ⟨zcn _ _ _, zcN _ _ _, fun t ht => zcg _ _ _ (fun j hj => ht j (hdm j hj)), fun p hp _ => ⟨vs p.1, fun t ht => ?_, hf p hp⟩⟩
   exact zdr vs _ _ (hE p hp) ht (by rw [hN]; exact hsl _ (hdm _ (hE p hp)) t ht) (fun k hk hkt => hun k p.1 (hdm k hk) (hdm _ (hE p hp)) t hkt ht)
  have hob := ho ops[i] (by simp [hi]) _ w hρ hse
  show wpOps P ops Q (i :: (r ++ List.range' m (ops.size - m))) _ w
  rw [wpOps_cons]
  unfold wpOp
  have hoi : ops[i]? = some ops[i] := by simp [hi]
  simp only [hoi]
  have go : ∀ v w', ρ w w' → φ v w' → wpOps P ops Q (r ++ List.range' m (ops.size - m)) ((putL ops vs done a0).put (ops[i]).dst v) w' := by
   intro v w' hw' hv
   have key := ih ((i, φ) :: E) (done ++ [i]) (fun j => if j = i then v else vs j) w' (by rw [← hd]; simp) (fun p hp => by
    rcases List.mem_cons.1 hp with rfl | hp
    ·
     simp
    ·
     exact List.mem_append_left _ (hE p hp)) (htrans hρ hw') (fun p hp => by
     rcases List.mem_cons.1 hp with rfl | hp
     ·
      simpa using hv
     ·
      have hne : p.1 ≠ i := fun e => hin (e ▸ hE p hp)
      simp only [hne, if_false]
      exact hst p hp _ _ _ hw' (hf p hp)) (fun p hp => by
       rcases List.mem_cons.1 hp with rfl | hp
       ·
        exact hs
       ·
        exact hst p hp) h
   rw [zhw] at key
   rw [zfd (vs' := vs) done a0 (fun j hj => by have hne : j ≠ i := fun e => hin (e ▸ hj); simp [hne])] at key
   have e : zaU ops i = (ops[i]).dst := by simp [zaU, hi]
   simpa [putL, e] using key
  by_cases hw : Region.wanted ops[i] (yielded ops (putL ops vs done a0).tmps) = true
  ·
   rw [if_pos hw] at hob
   simp only [hw, if_true]
   refine .inl (Oper.wp_mono (fun a' w' hh => ?_) hob)
   obtain ⟨v, rfl, hw', hv⟩ := hh
   exact go v w' hw' hv
  ·
   rw [if_neg hw] at hob
   simp only [hw, if_false, Bool.false_eq_true]
   exact go undef w (hrefl w) hob
theorem zkO {id N : Nat} {a : Act} {w : World} (m : Nat) (ρ : World → World → Prop) (hok : rgOkT ops m N = true) (hN : a.tmps.size = N) (hrefl : ∀ w, ρ w w) (htrans : ∀ {A B C}, ρ A B → ρ B C → ρ A C)
  (h : RG P ops Q ρ a w m [] (List.range m)) : (Code.region id ops false).wp P Q a w := by
 refine wp_region ?_
 have hm : m ≤ ops.size := by
  simp only [rgOkT, Bool.and_eq_true, decide_eq_true_eq] at hok
  exact hok.1.1
 have := zjS hok hN hrefl htrans (List.range m) [] [] (fun _ => undef) w rfl s9 (hrefl w) s9 s9 h
 have e : List.range m ++ List.range' m (ops.size - m) = List.range ops.size := by
  have h0 : List.range ops.size = List.range' 0 (m + (ops.size - m)) := by rw [List.range_eq_range']; congr 1; omega
  rw [h0, List.range_eq_range', ← List.range'_append_1, Nat.zero_add]
 rw [e] at this
 exact this
theorem zk2 {E : Env} {i : Nat} {r : List Nat} {o : Oper} (φ : Value → World → Prop) (hs : ∀ v w w', ρ w w' → φ v w → φ v w') (hrefl : ∀ w, ρ w w) (hi : ops[i]? = some o)
  (hw : ∀ a w, ρ w0 w → Seen ops a0 m E i a w → Region.wanted o (yielded ops a.tmps) = true)
  (hr : ∀ a w, ρ w0 w → Seen ops a0 m E i a w → ∃ v, (execOp a.eval o).run P w = .ok (.value v) w ∧ φ v w) (h : RG P ops Q ρ a0 w0 m ((i, φ) :: E) r) : RG P ops Q ρ a0 w0 m E (i :: r) :=
 ze2 φ hs hi hw (fun a w hρ hse => let ⟨v, h1, h2⟩ := hr a w hρ hse; ⟨v, w, h1, hrefl w, h2⟩) h
end
def OneR {α : Type} (d : Kd α) (e : Nat) (xs : List α) (p : Value → Value) (v : Value) (w : World) : Prop := ∃ u, v = p u ∧ d.R e w 0 (fun _ => True) u xs
theorem OneR.grows {α : Type} {d : Kd α} {e : Nat} {xs : List α} {p : Value → Value} (v : Value) (w w' : World) (hg : Grows w w') (h : OneR d e xs p v w) : OneR d e xs p v w' := by
 obtain ⟨u, h1, h2⟩ := h
 exact ⟨u, h1, Kd.zbC h2 hg⟩
theorem OneR.of {α : Type} {d : Kd α} {e : Nat} {xs : List α} {p : Value → Value} {u : Value} {w : World} {base : Nat} {ok : Nat → Prop} (h : d.R e w base ok u xs) : OneR d e xs p (p u) w := ⟨u, rfl, Kd.zbi (Kd.za0 h (fun _ _ => trivial)) (Nat.zero_le _)⟩
theorem OneR.reads {α : Type} {d : Kd α} {e : Nat} {xs : List α} {p : Value → Value} {v : Value} {w : World} (h : OneR d e xs p v w) : ∃ A c, v = p (.slice A xs.length c) ∧ xs.length ≤ c ∧ d.C w A xs.length xs ∧ d.R e w 0 (fun _ => True) (.slice A xs.length c) xs := by
 obtain ⟨u, h1, h2⟩ := h
 obtain ⟨A, c, rfl⟩ := Kd.zbj h2
 exact ⟨A, c, h1, (Kd.zbn h2).2.1, (Kd.zbn h2).2.2, h2⟩
def OneC {α : Type} (d : Kd α) (xs : List α) (p : Value → Value) (v : Value) (w : World) : Prop := ∃ A c, v = p (.slice A xs.length c) ∧ xs.length ≤ c ∧ d.C w A xs.length xs
theorem OneC.grows {α : Type} {d : Kd α} {xs : List α} {p : Value → Value} (v : Value) (w w' : World) (hg : Grows w w') (h : OneC d xs p v w) : OneC d xs p v w' := by
 obtain ⟨A, c, h1, h2, h3⟩ := h
 exact ⟨A, c, h1, h2, Kd.zat h3 hg⟩
theorem OneC.reads {α : Type} {d : Kd α} {xs : List α} {p : Value → Value} {v : Value} {w : World} (h : OneC d xs p v w) : ∃ A c, v = p (.slice A xs.length c) ∧ xs.length ≤ c ∧ d.C w A xs.length xs := h
section
variable {P : Program} {ops : Array Oper} {Q : Exit → Act → World → Prop} {a0 : Act} {w0 : World} {m : Nat}
theorem zdc {α : Type} (d : Kd α) (e : Nat) {E : Env} {i : Nat} {r : List Nat} {o : Oper} {N : Tmp} (xs : List α) (hi : ops[i]? = some o) (hd : o.dst = some N)
  (hw : ∀ a w, Grows w0 w → Seen ops a0 m E i a w → Region.wanted o (yielded ops a.tmps) = true) (hm : xs.length ≤ 9223372036854775807)
  (hr : ∀ a w, Grows w0 w → Seen ops a0 m E i a w → ∃ inner, (execOp a.eval o).run P w = .ok (.value (.slice (some ⟨w.heap.size, 0, none⟩) xs.length xs.length)) (w.alloc (.cells inner.toArray e)) ∧ Reps (d.M w w.heap.size (fun _ => True)) d.sz xs inner)
  (h : RG P ops Q Grows a0 w0 m ((i, OneR d e xs (fun u => u)) :: E) r) : RG P ops Q Grows a0 w0 m E (i :: r) := by
 refine rg_op (OneR d e xs (fun u => u)) (fun _ _ _ hg hx => hx.grows _ _ _ hg) (fun o' ho' a w hρ hse => ?_) h
 obtain rfl : o = o' := Option.some.inj (hi.symm.trans ho')
 have hww := hw a w hρ hse
 obtain ⟨inner, hrun, hrep⟩ := hr a w hρ hse
 have h1 := Kd.zd1 (Q := Q) (Kc := fun a' w' => ∃ v, a' = a.put o.dst v ∧ Grows w w' ∧ OneR d e xs (fun u => u) v w') d (w0 := w) w.heap.size e hww hd hrun (ok := fun _ => True) (okp := fun _ => True) hrep (fun _ h => h) trivial (Below.refl _ _) (Nat.le_refl _) hm (fun v1 w1 hR hB _ _ => ⟨v1, rfl, hB, OneR.of (p := fun u => u) hR⟩)
 rw [if_pos hww] at h1 ⊢
 exact h1
end
def Boxed (cs : Array Value) (t n : Nat) (v : Value) (w : World) : Prop := ∃ b, v = .pointer (some ⟨b, 0, none⟩) ∧ w.heap[b]? = some (.cells cs t (0, 0)) ∧ n ≤ b
theorem Grows.at {A B : World} (h : Grows A B) {k : Nat} {o : Obj} (hk : A.heap[k]? = some o) : B.heap[k]? = some o := (h.block _ (zai hk)).trans hk
theorem Boxed.grows {cs : Array Value} {t n : Nat} (v : Value) (w w' : World) (hg : Grows w w') (h : Boxed cs t n v w) : Boxed cs t n v w' := by
 obtain ⟨b, h1, h2, h3⟩ := h
 exact ⟨b, h1, hg.at h2, h3⟩
theorem Boxed.new {cs : Array Value} {t n : Nat} {w : World} (h : n ≤ w.heap.size) : Boxed cs t n (.pointer (some ⟨w.heap.size, 0, none⟩)) (w.alloc (.cells cs t (0, 0))) := ⟨_, rfl, at_new _ _ rfl, h⟩
theorem Grows.alloc (w : World) (o : Obj) : Grows w (w.alloc o) := (Below.refl _ _).alloc (Nat.le_refl _) _
theorem setB {n : Nat} {A B : World} (h : Below n A B) {a : Addr} (ha : n ≤ a.block) (u : Value) : Below n A (B.setCell a u) := ⟨h.os, h.tape, h.output, by simpa using h.size, fun k hk => (Below.heap_setCell _ _ _ _ o9).trans (h.block k hk)⟩
theorem zbs {α : Type} {l : List α} {a : α} (i : Nat) (h : l[i]? = some a) : a ∈ l := List.mem_of_getElem? h
section
variable {P : Program} {ops : Array Oper} {Q : Exit → Act → World → Prop} {ρ : World → World → Prop} {a0 : Act} {w0 : World} {m : Nat} {late : List Nat}
def rgOkL (ops : Array Oper) (m N : Nat) (late : List Nat) : Bool :=
 rgOkT ops m N && decide (m < ops.size) && (List.range ops.size).all (fun i => (needs ops i).all (fun j => decide (j < i))) && (List.range m).all (fun j => late.contains j || (needs ops m).contains j) &&
 (List.range ops.size).all (fun t => decide (t ≤ m) || (List.range t).all (fun j => (needs ops t).contains j))
theorem zd2 {N : Nat} (h : rgOkL ops m N late = true) : m < ops.size ∧ (∀ j, j < m → ∀ t, zaU ops j = some t → t < N) ∧ (∀ j k, j < m → k < m → ∀ t, zaU ops j = some t → zaU ops k = some t → j = k) ∧
  (∀ i j, j ∈ needs ops i → j < i) ∧ (∀ j, j < m → j ∉ late → j ∈ needs ops m) ∧ (∀ t, m < t → t < ops.size → ∀ j, j < t → j ∈ needs ops t) := by
 simp only [rgOkL, rgOkT, Bool.and_eq_true, decide_eq_true_eq] at h
 obtain ⟨⟨⟨⟨⟨⟨h1, h2⟩, h3⟩, h4⟩, h5⟩, h6⟩, h7⟩ := h
 refine ⟨h4, fun j hj t ht => ?_, fun j k hj hk t ht ht' => zgH _ List.nodup_range h3 j k (List.mem_range.2 hj) (List.mem_range.2 hk) t ht ht', fun i j hj => ?_, fun j hj hl => ?_, fun t hm ht j hj => ?_⟩
 ·
  have := List.all_eq_true.1 h2 t (List.mem_filterMap.2 ⟨j, List.mem_range.2 hj, ht⟩)
  simpa using this
 ·
  by_cases hi : i < ops.size
  ·
   have h8 := List.all_eq_true.1 h5 i (List.mem_range.2 hi)
   simpa using List.all_eq_true.1 h8 j hj
  ·
   have : ops[i]? = none := Array.getElem?_eq_none o9
   simp [needs, this] at hj
 ·
  have := List.all_eq_true.1 h6 j (List.mem_range.2 hj)
  simpa [hl] using this
 ·
  have h8 := List.all_eq_true.1 h7 t (List.mem_range.2 ht)
  simp only [Bool.or_eq_true, decide_eq_true_eq] at h8
  rcases h8 with h8 | h8
  ·
   omega
  ·
   simpa using List.all_eq_true.1 h8 j (List.mem_range.2 hj)
theorem tailL {N : Nat} (hok : rgOkL ops m N late = true) : ∀ (k t : Nat) (listed : Array Bool) (a : Act) (w : World), t + k = ops.size → m < t → listed.size = ops.size → (∀ j, j < ops.size → listed.getD j false = decide (j < t)) →
  wpOps P ops Q (List.range' t k) a w → wpAny P .any ops Q k listed a w := by
 obtain ⟨_, _, _, hlt, _, htl⟩ := zd2 hok
 intro k
 induction k with
 | zero =>
  intro t listed a w ht _ hsz hl h
  refine ⟨?_, by simpa [wpOps] using h⟩
  refine List.eq_nil_iff_forall_not_mem.2 fun i hi => ?_
  obtain ⟨hi1, hi2, _⟩ := zcf hi
  have := hl i hi1
  rw [Array.getD_eq_getD_getElem?, Array.getElem?_eq_getElem o9] at hi2 this
  simp only [Option.getD_some] at hi2 this
  rw [hi2] at this
  have : ¬ i < t := by simpa using this.symm
  omega
 | succ k ih =>
  intro t listed a w ht hm hsz hl h
  have htn : t < ops.size := by omega
  have hun : listed.getD t true = false := by
   have := hl t htn
   rw [Array.getD_eq_getD_getElem?, Array.getElem?_eq_getElem o9] at this ⊢
   simpa using this
  have hrd : t ∈ Region.ready .any ops listed := zc3 htn hun fun j hj => by
   have := hlt t j hj
   rw [hl j o9]; simpa using this
  refine ⟨fun h0 => by rw [h0] at hrd; simp at hrd, fun i hi => ?_⟩
  obtain ⟨hi1, hi2, hi3⟩ := zcf hi
  have hit : t ≤ i := by
   rcases Nat.lt_or_ge i t with hc | hc
   ·
    have := hl i hi1
    rw [Array.getD_eq_getD_getElem?, Array.getElem?_eq_getElem o9] at hi2 this
    simp only [Option.getD_some] at hi2 this
    rw [hi2] at this
    simp at this
    omega
   ·
    exact hc
  have hie : i = t := by
   rcases Nat.lt_or_ge t i with hc | hc
   ·
    have h6 := hi3 t (htl i o9 hi1 t hc)
    rw [hl t htn] at h6
    simp at h6
   ·
    omega
  subst hie
  have h' : wpOps P ops Q (i :: List.range' (i + 1) k) a w := by simpa [List.range'_succ] using h
  rw [wpOps_cons] at h'
  refine wpOp_mono (fun a' w' hh => ih (i + 1) (listed.setIfInBounds i true) a' w' o9 o9 (by simpa using hsz) (fun j hj => ?_) hh) h'
  by_cases hji : i = j
  ·
   subst hji; rw [Array.getD_eq_getD_getElem?]; simp [hsz, hj]
  ·
   have := hl j hj
   rw [Array.getD_eq_getD_getElem?] at this ⊢
   rw [Array.getElem?_setIfInBounds_ne hji, this]
   simp only [decide_eq_decide]
   omega
theorem zcp {listed : Array Bool} {i : Nat} (hsz : listed.size = ops.size) (hi1 : i < ops.size) (j : Nat) : (listed.setIfInBounds i true).getD j false = if j = i then true else listed.getD j false := by
 by_cases hji : j = i
 ·
  subst hji; rw [Array.getD_eq_getD_getElem?]; simp [hsz, hi1]
 ·
  rw [Array.getD_eq_getD_getElem?, Array.getElem?_setIfInBounds_ne (Ne.symm hji), Array.getD_eq_getD_getElem?, if_neg hji]
theorem ze1 {listed : Array Bool} {i fuel : Nat} (hsz : listed.size = ops.size) (hi1 : i < ops.size) (hib : listed.getD i false = false) (hc : fuel + 1 + (List.range ops.size).countP (fun j => listed.getD j false) = ops.size) :
  fuel + (List.range ops.size).countP (fun j => (listed.setIfInBounds i true).getD j false) = ops.size := by
 have h2 : ∀ n, n ≤ ops.size → (List.range n).countP (fun j => (listed.setIfInBounds i true).getD j false) = (List.range n).countP (fun j => listed.getD j false) + if i < n then 1 else 0 := by
  intro n
  induction n with
  | zero => intro _; simp
  | succ n ihn =>
   intro hn
   rw [List.range_succ, List.countP_append, List.countP_append, ihn o9]
   simp only [List.countP_singleton, zcp hsz hi1]
   by_cases hni : n = i
   ·
    subst hni; simp [hib]
   ·
    rw [if_neg hni]
    by_cases h3 : i < n
    ·
     rw [if_pos h3, if_pos (show i < n + 1 by omega)]; omega
    ·
     rw [if_neg h3, if_neg (show ¬ i < n + 1 by omega)]; omega
 rw [h2 _ (Nat.le_refl _), if_pos hi1]; omega
theorem zgJ {listed : Array Bool} (h : (List.range ops.size).countP (fun j => listed.getD j false) = ops.size) : ∀ j, j < ops.size → listed.getD j false = true := by
 have := List.countP_eq_length (p := fun j => listed.getD j false) (l := List.range ops.size)
 exact fun j hj => (this.1 (by simpa using h)) j (List.mem_range.2 hj)
theorem zh9 {listed : Array Bool} {t : Nat} (ht : t ≤ ops.size) (hall : ∀ j, j < t → listed.getD j false = true) (hno : ∀ j, t ≤ j → j < ops.size → listed.getD j false = false) : (List.range ops.size).countP (fun j => listed.getD j false) = t := by
 have h1 : ∀ (k n : Nat), n = t + k → n ≤ ops.size → (List.range n).countP (fun j => listed.getD j false) = t := by
  intro k
  induction k with
  | zero =>
   intro n hn hle
   have := (List.countP_eq_length (p := fun j => listed.getD j false) (l := List.range n)).2 (fun j hj => hall j (by have := List.mem_range.1 hj; omega))
   simpa [hn] using this
  | succ k ihk =>
   intro n hn hle
   obtain ⟨n', rfl⟩ : ∃ n', n = n' + 1 := ⟨n - 1, by omega⟩
   rw [List.range_succ, List.countP_append, ihk n' o9 o9]
   simp only [List.countP_singleton, hno n' o9 o9]
   simp
 exact h1 (ops.size - t) ops.size o9 (Nat.le_refl _)
theorem zhG {listed : Array Bool} {m : Nat} (h : ¬ ∀ j, j < m → listed.getD j false = true) : ∃ j, j < m ∧ listed.getD j false = false ∧ ∀ k, k < j → listed.getD k false = true := by
 have hex : ∃ j, j < m ∧ listed.getD j false = false := by
  refine Classical.byContradiction fun hno' => h fun j hj => ?_
  cases hb : listed.getD j false with
  | true => rfl
  | false => exact absurd ⟨j, hj, hb⟩ hno'
 obtain ⟨j, hj, hb⟩ := hex
 induction j using Nat.strongRecOn with
 | _ j ihj =>
  by_cases hk : ∀ k, k < j → listed.getD k false = true
  ·
   exact ⟨j, hj, hb, hk⟩
  ·
   obtain ⟨k, hk⟩ := Classical.not_forall.1 hk
   obtain ⟨hkj, hkb⟩ := Classical.not_imp.1 hk
   exact ihj k hkj o9 (by simpa using hkb)
theorem zfT {listed : Array Bool} {j : Nat} (hsz : listed.size = ops.size) (hj : j < ops.size) (hb : listed.getD j false = false) (hk : ∀ k ∈ needs ops j, listed.getD k false = true) : j ∈ Region.ready .any ops listed :=
 zc3 hj (by rw [Array.getD_eq_getD_getElem?, Array.getElem?_eq_getElem o9] at hb ⊢; simpa using hb) hk
theorem behind {N : Nat} (hok : rgOkL ops m N late = true) (hN : a0.tmps.size = N) (vs : Nat → Value) (w1 : World) (hfin : wpOps P ops Q (List.range' (m + 1) (ops.size - (m + 1))) (putL ops vs (List.range m) a0) w1)
  (hlate : ∀ i, i < m → i ∈ late → ∀ a : Act, a.defers = a0.defers → a.tmps.size = a0.tmps.size → (∀ j ∈ needs ops i, ∀ t, zaU ops j = some t → a.tmps[t]?.getD undef = vs j) → (∀ t, (∀ j, j < m → zaU ops j ≠ some t) → a.tmps[t]?.getD undef = a0.tmps[t]?.getD undef) →
   ∃ o, ops[i]? = some o ∧ Region.wanted o (yielded ops a.tmps) = true ∧ ∀ w', (execOp a.eval o).run P w' = .ok (.value (vs i)) w') :
  ∀ (fuel : Nat) (listed : Array Bool) (a : Act), listed.size = ops.size → fuel + (List.range ops.size).countP (fun j => listed.getD j false) = ops.size → listed.getD m false = true →
   (∀ j, j < m → j ∉ late → listed.getD j false = true) → (∀ j, m < j → j < ops.size → listed.getD j false = false) → a.defers = a0.defers → a.tmps.size = a0.tmps.size →
   (∀ j, j < m → listed.getD j false = true → ∀ t, zaU ops j = some t → a.tmps[t]?.getD undef = vs j) →
   (∀ t, (∀ j, j < m → zaU ops j ≠ some t) → a.tmps[t]?.getD undef = a0.tmps[t]?.getD undef) → wpAny P .any ops Q fuel listed a w1 := by
 obtain ⟨hm, hsl, hun, hlt, hnm, htl⟩ := zd2 hok
 intro fuel
 induction fuel with
 | zero =>
  intro listed a hsz hc hlm hnl hno hd hs hin hout
  have hall := zgJ (ops := ops) (listed := listed) o9
  have hmn : m + 1 = ops.size := by
   rcases Nat.lt_or_ge (m + 1) ops.size with hc' | hc'
   ·
    have := hno (m + 1) o9 hc'
    rw [hall _ hc'] at this; cases this
   ·
    omega
  have ha : a = putL ops vs (List.range m) a0 := by
   refine zfA (by rw [zcn, hd]) (by rw [zcN, hs]) fun t ht => ?_
   by_cases hx : ∃ j, j < m ∧ zaU ops j = some t
   ·
    obtain ⟨j, hj, hjt⟩ := hx
    rw [hin j hj (hall j o9) t hjt, zdr vs _ _ (List.mem_range.2 hj) hjt (by rw [← hs]; exact ht) (fun k hk hkt => hun k j (List.mem_range.1 hk) hj t hkt hjt)]
   ·
    rw [hout t (fun j hj e => hx ⟨j, hj, e⟩), zcg vs _ _ (fun j hj e => hx ⟨j, List.mem_range.1 hj, e⟩)]
  rw [ha]
  refine tailL hok 0 ops.size listed _ w1 rfl hm hsz (fun j hj => by rw [hall j hj]; simpa using hj) ?_
  have : ops.size - (m + 1) = 0 := by omega
  rw [this] at hfin
  simpa [wpOps] using hfin
 | succ fuel ih =>
  intro listed a hsz hc hlm hnl hno hd hs hin hout
  by_cases hall : ∀ j, j < m → listed.getD j false = true
  ·
   have ha : a = putL ops vs (List.range m) a0 := by
    refine zfA (by rw [zcn, hd]) (by rw [zcN, hs]) fun t ht => ?_
    by_cases hx : ∃ j, j < m ∧ zaU ops j = some t
    ·
     obtain ⟨j, hj, hjt⟩ := hx
     rw [hin j hj (hall j hj) t hjt, zdr vs _ _ (List.mem_range.2 hj) hjt (by rw [← hs]; exact ht) (fun k hk hkt => hun k j (List.mem_range.1 hk) hj t hkt hjt)]
    ·
     rw [hout t (fun j hj e => hx ⟨j, hj, e⟩), zcg vs _ _ (fun j hj e => hx ⟨j, List.mem_range.1 hj, e⟩)]
   have hall' : ∀ j, j < m + 1 → listed.getD j false = true := fun j hj => by
    rcases Nat.lt_or_ge j m with h | h
    ·
     exact hall j h
    ·
     obtain rfl : j = m := by omega
     exact hlm
   have hcm := zh9 (ops := ops) (listed := listed) (t := m + 1) o9 hall' (fun j hj hjn => hno j o9 hjn)
   have hk : fuel + 1 = ops.size - (m + 1) := by omega
   rw [ha, hk]
   refine tailL hok (ops.size - (m + 1)) (m + 1) listed _ w1 o9 o9 hsz (fun j hj => ?_) hfin
   by_cases hjm : j < m + 1
   ·
    rw [hall' j hjm]; simpa using hjm
   ·
    rw [hno j o9 hj]; simpa using hjm
  ·
   refine ⟨fun h0 => ?_, fun i hi => ?_⟩
   ·
    obtain ⟨j, hj, hb, hk⟩ := zhG hall
    have := zfT hsz o9 hb (fun k hk' => hk k (hlt j k hk'))
    rw [h0] at this; simp at this
   ·
    obtain ⟨hi1, hi2, hi3⟩ := zcf hi
    have hib : listed.getD i false = false := by
     rw [Array.getD_eq_getD_getElem?, Array.getElem?_eq_getElem o9] at hi2 ⊢; simpa using hi2
    have him : i < m := by
     rcases Nat.lt_or_ge i m with hc' | hc'
     ·
      exact hc'
     ·
      rcases Nat.eq_or_lt_of_le hc' with h | h
      ·
       rw [← h, hlm] at hib; cases hib
      ·
       exact absurd (fun j (hj : j < m) => hi3 j (htl i h hi1 j o9)) hall
    have hil : i ∈ late := Classical.byContradiction fun h => by rw [hnl i him h] at hib; cases hib
    obtain ⟨o, hoi, hw, hrun⟩ := hlate i him hil a hd hs (fun j hj t ht => hin j (by have := hlt i j hj; omega) (hi3 j hj) t ht) hout
    have hso : zaU ops i = o.dst := by simp [zaU, hoi]
    unfold wpOp
    simp only [hoi, hw, if_true]
    refine .inl ?_
    unfold Oper.wp
    rw [hrun w1]
    show wpAny P .any ops Q fuel (listed.setIfInBounds i true) (a.put o.dst (vs i)) w1
    rw [← hso]
    have hne : ∀ j, j < m → j ≠ i → ∀ t, zaU ops j = some t → zaU ops i ≠ some t := fun j hj hji t hjt hit => hji (hun j i hj him t hjt hit)
    refine ih _ _ (by simpa using hsz) (ze1 hsz hi1 hib hc) ?_ ?_ ?_ (by rw [put_defers, hd]) (by rw [zdP, hs]) ?_ ?_
    ·
     rw [zcp hsz hi1, if_neg o9]; exact hlm
    ·
     intro j hj hjl
     rw [zcp hsz hi1]
     by_cases h : j = i
     ·
      rw [if_pos h]
     ·
      rw [if_neg h]; exact hnl j hj hjl
    ·
     intro j hj hjn
     rw [zcp hsz hi1, if_neg o9]; exact hno j hj hjn
    ·
     intro j hj hb t hjt
     rw [zcp hsz hi1] at hb
     by_cases hji : j = i
     ·
      subst hji
      rw [hjt, zeq (Nat.lt_of_lt_of_le (hsl j hj t hjt) o9)]
     ·
      rw [if_neg hji] at hb
      rw [zcH (hne j hj hji t hjt)]
      exact hin j hj hb t hjt
    ·
     intro t ht
     rw [zcH (ht i him)]
     exact hout t ht
variable (P ops Q ρ a0 w0 m late)
def ObL (E : Env) (i : Nat) (v : Value) : Prop :=
 ∀ o, ops[i]? = some o → ∀ a w, ρ w0 w → Seen ops a0 m E i a w → Region.wanted o (yielded ops a.tmps) = true ∧ ∀ w', (execOp a.eval o).run P w' = .ok (.value v) w'
def FinL (E : Env) : Prop := ∀ (vs : Nat → Value) (w : World), ρ w0 w → (∀ p ∈ E, p.2 (vs p.1) w) →
 ∃ o w1, ops[m]? = some o ∧ (execOp (putL ops vs (List.range m) a0).eval o).run P w = .ok .skip w1 ∧ wpOps P ops Q (List.range' (m + 1) (ops.size - (m + 1))) (putL ops vs (List.range m) a0) w1
def RGL : Env → List Nat → Prop
 | E, [] => FinL P ops Q ρ a0 w0 m E
 | E, i :: r => ∃ φ : Value → World → Prop, (∀ v w w', ρ w w' → φ v w → φ v w') ∧ Ob P ops Q ρ a0 w0 m E i φ ∧ (i ∈ late → ∃ v, (∀ x w, φ x w ↔ x = v) ∧ ObL P ops ρ a0 w0 m E i v) ∧ RGL ((i, φ) :: E) r
variable {P ops Q ρ a0 w0 m late}
theorem RGL.out : ∀ (l : List Nat) (E : Env), RGL P ops Q ρ a0 w0 m late E l →
  ∃ E' : Env, E'.map (·.1) = l.reverse ∧ (∀ p ∈ E', ∀ v w w', ρ w w' → p.2 v w → p.2 v w') ∧ (∀ p ∈ E', ∃ E1 : Env, (∀ q ∈ E1, q ∈ E' ++ E) ∧ Ob P ops Q ρ a0 w0 m E1 p.1 p.2 ∧ (p.1 ∈ late → ∃ v, (∀ x w, p.2 x w ↔ x = v) ∧ ObL P ops ρ a0 w0 m E1 p.1 v)) ∧ FinL P ops Q ρ a0 w0 m (E' ++ E)
 | [], E, h => ⟨[], rfl, fun _ h => by simp at h, fun _ h => by simp at h, h⟩
 | i :: r, E, ⟨φ, hs, ho, hl, h⟩ => by
  obtain ⟨E', h1, h2, h3, h4⟩ := RGL.out r ((i, φ) :: E) h
  have he : E' ++ (i, φ) :: E = (E' ++ [(i, φ)]) ++ E := by simp
  rw [he] at h4
  refine ⟨E' ++ [(i, φ)], by simp [h1], ?_, ?_, h4⟩
  ·
   intro p hp
   rcases List.mem_append.1 hp with hp | hp
   ·
    exact h2 p hp
   ·
    rw [List.mem_singleton.1 hp]; exact hs
  ·
   intro p hp
   rcases List.mem_append.1 hp with hp | hp
   ·
    obtain ⟨E1, hE, ho1⟩ := h3 p hp
    exact ⟨E1, fun q hq => by rw [← he]; exact hE q hq, ho1⟩
   ·
    rw [List.mem_singleton.1 hp]
    exact ⟨E, fun q hq => List.mem_append.2 (.inr hq), ho, hl⟩
def zdR (ops : Array Oper) (late : List Nat) : Operand → Bool
 | .tmp s => late.all (fun j => zaU ops j != some s)
 | _ => true
theorem zi6 {a b : Act} {x : Operand} (h : ∀ s, x = .tmp s → a.tmps[s]?.getD undef = b.tmps[s]?.getD undef) : a.eval x = b.eval x := by
 cases x with
 | tmp s => simpa [Act.eval] using h s rfl
 | _ => rfl
theorem zkT {N : Nat} (hok : rgOkL ops m N late = true) (hN : a0.tmps.size = N) (hrefl : ∀ w, ρ w w) (htrans : ∀ {A B C}, ρ A B → ρ B C → ρ A C)
  {os : Oper} {ty : TypeId} {xp xv : Operand} (hos : ops[m]? = some os) (hop : os.op = .store ty xp xv) (hgd : os.guard = none) (hdst : os.dst = none) (hfree : (zdR ops late xp && zdR ops late xv) = true)
  (h : RGL P ops Q ρ a0 w0 m late [] (List.range m)) : wpAny P .any ops Q ops.size (Array.replicate ops.size false) a0 w0 := by
 obtain ⟨hm, hsl, hun, hlt, hnm, htl⟩ := zd2 hok
 obtain ⟨E, hE, hst, hob, hfin⟩ := RGL.out _ _ h
 rw [List.append_nil] at hfin
 have hEm : ∀ i, i < m → ∃ φ, (i, φ) ∈ E := fun i hi => by
  have : i ∈ E.map (·.1) := by rw [hE]; simpa using hi
  obtain ⟨p, hp, rfl⟩ := List.mem_map.1 this
  exact ⟨p.2, hp⟩
 have hEl : ∀ p ∈ E, p.1 < m := fun p hp => by
  have : p.1 ∈ E.map (·.1) := List.mem_map.2 ⟨p, hp, rfl⟩
  rw [hE] at this; simpa using this
 have hEu : ∀ p ∈ E, ∀ q ∈ E, p.1 = q.1 → p = q := by
  have hn : (E.map (·.1)).Nodup := by rw [hE]; exact List.pairwise_reverse.2 ((List.nodup_range (n := m)).imp (fun h => h.symm))
  intro p hp q hq he
  exact ze0 E hn p hp q hq he
 have hcx : ∀ j : Nat, ∃ v : Value, j < m → j ∈ late → ∃ φ E1, (j, φ) ∈ E ∧ (∀ q ∈ E1, q ∈ E) ∧ (∀ x w, φ x w ↔ x = v) ∧ ObL P ops ρ a0 w0 m E1 j v := fun j => by
  by_cases hj : j < m ∧ j ∈ late
  ·
   obtain ⟨φ, hφ⟩ := hEm j hj.1
   obtain ⟨E1, hE1, _, hl⟩ := hob _ hφ
   obtain ⟨v, h1, h2⟩ := hl hj.2
   exact ⟨v, fun _ _ => ⟨φ, E1, hφ, fun q hq => by simpa using hE1 q hq, h1, h2⟩⟩
  ·
   exact ⟨undef, fun h1 h2 => absurd ⟨h1, h2⟩ hj⟩
 obtain ⟨c, hc⟩ := Classical.axiomOfChoice hcx
 simp only [Bool.and_eq_true] at hfree
 have key : ∀ (fuel : Nat) (listed : Array Bool) (vs : Nat → Value) (a : Act) (w : World), listed.size = ops.size → fuel + (List.range ops.size).countP (fun j => listed.getD j false) = ops.size →
   (∀ j, m ≤ j → j < ops.size → listed.getD j false = false) → ρ w0 w → a.defers = a0.defers → a.tmps.size = a0.tmps.size →
   (∀ j, j < m → listed.getD j false = true → ∀ t, zaU ops j = some t → a.tmps[t]?.getD undef = vs j) →
   (∀ t, (∀ j, j < m → listed.getD j false = true → zaU ops j ≠ some t) → a.tmps[t]?.getD undef = a0.tmps[t]?.getD undef) →
   (∀ p ∈ E, listed.getD p.1 false = true → p.2 (vs p.1) w) → wpAny P .any ops Q fuel listed a w := by
  intro fuel
  induction fuel with
  | zero =>
   intro listed vs a w hsz hcn hno hρ hd hs hin hout hfact
   have hall := zgJ (ops := ops) (listed := listed) o9
   have := hno m (Nat.le_refl _) hm
   rw [hall m hm] at this; cases this
  | succ fuel ih =>
   intro listed vs a w hsz hcn hno hρ hd hs hin hout hfact
   refine ⟨fun h0 => ?_, fun i hi => ?_⟩
   ·
    by_cases hall : ∀ j, j < m → listed.getD j false = true
    ·
     have := zfT hsz hm (hno m (Nat.le_refl _) hm) (fun k hk => hall k (hlt m k hk))
     rw [h0] at this; simp at this
    ·
     obtain ⟨j, hj, hb, hk⟩ := zhG hall
     have := zfT hsz o9 hb (fun k hk' => hk k (hlt j k hk'))
     rw [h0] at this; simp at this
   ·
    obtain ⟨hi1, hi2, hi3⟩ := zcf hi
    have hib : listed.getD i false = false := by
     rw [Array.getD_eq_getD_getElem?, Array.getElem?_eq_getElem o9] at hi2 ⊢; simpa using hi2
    rcases Nat.lt_trichotomy i m with him | him | him
    ·
     obtain ⟨φ, hφ⟩ := hEm i him
     obtain ⟨E1, hE1, ho, _⟩ := hob _ hφ
     have hoi : ops[i]? = some ops[i] := Array.getElem?_eq_getElem hi1
     have hseen : Seen ops a0 m E1 i a w := by
      refine ⟨hd, hs, fun t ht => hout t (fun j hj _ => ht j hj), fun p hp hpn => ?_⟩
      have hpE : p ∈ E := by simpa using hE1 p hp
      exact ⟨vs p.1, fun t ht => hin p.1 (hEl p hpE) (hi3 _ hpn) t ht, hfact p hpE (hi3 _ hpn)⟩
     have h1 := ho _ hoi a w hρ hseen
     have hL := zcp (ops := ops) (listed := listed) hsz hi1
     have go : ∀ (v : Value) (w' : World), ρ w w' → φ v w' → wpAny P .any ops Q fuel (listed.setIfInBounds i true) (a.put (zaU ops i) v) w' := by
      intro v w' hw' hv
      have hne : ∀ j, j < m → j ≠ i → ∀ t, zaU ops j = some t → zaU ops i ≠ some t := fun j hj hji t hjt hit => hji (hun j i hj him t hjt hit)
      refine ih (listed.setIfInBounds i true) (fun j => if j = i then v else vs j) _ _ (by simpa using hsz) (ze1 hsz hi1 hib hcn) ?_ (htrans hρ hw') (by rw [put_defers, hd]) (by rw [zdP, hs]) ?_ ?_ ?_
      ·
       intro j hj hjn
       rw [hL, if_neg o9]; exact hno j hj hjn
      ·
       intro j hj hb t hjt
       rw [hL] at hb
       by_cases hji : j = i
       ·
        subst hji
        rw [if_pos rfl, hjt, zeq (Nat.lt_of_lt_of_le (hsl j hj t hjt) o9)]
       ·
        rw [if_neg hji] at hb ⊢
        rw [zcH (hne j hj hji t hjt)]
        exact hin j hj hb t hjt
      ·
       intro t ht
       have hi' := ht i him (by rw [hL, if_pos rfl])
       rw [zcH hi']
       refine hout t fun j hj hb => ?_
       by_cases hji : j = i
       ·
        subst hji; exact hi'
       ·
        exact ht j hj (by rw [hL, if_neg hji]; exact hb)
      ·
       intro p hp hb
       rw [hL] at hb
       by_cases hpi : p.1 = i
       ·
        have : p = (i, φ) := hEu p hp _ hφ hpi
        subst this
        simpa using hv
       ·
        rw [if_neg hpi] at hb ⊢
        exact hst p hp _ _ _ hw' (hfact p hp hb)
     have hso : zaU ops i = ops[i].dst := by simp [zaU, hoi]
     unfold wpOp
     simp only [hoi]
     by_cases hw : Region.wanted ops[i] (yielded ops a.tmps) = true
     ·
      rw [if_pos hw] at h1 ⊢
      refine .inl (Oper.wp_mono (fun a' w' hh => ?_) h1)
      obtain ⟨v, rfl, hw', hv⟩ := hh
      rw [← hso]
      exact go v w' hw' hv
     ·
      rw [if_neg hw] at h1 ⊢
      rw [← hso]
      exact go undef w (hrefl w) h1
    ·
     -- the store
     subst him
     obtain ⟨vs', hvs'⟩ : ∃ vs' : Nat → Value, vs' = fun j => if listed.getD j false = true then vs j else c j := ⟨_, rfl⟩
     have hpend : ∀ j, j < i → listed.getD j false ≠ true → j ∈ late := fun j hj hb => Classical.byContradiction fun hl => hb (hi3 j (hnm j hj hl))
     have hfact' : ∀ p ∈ E, p.2 (vs' p.1) w := fun p hp => by
      rw [hvs']
      by_cases hb : listed.getD p.1 false = true
      ·
       simp only [hb, if_true]; exact hfact p hp hb
      ·
       simp only [hb, if_false, Bool.false_eq_true]
       obtain ⟨φ, E1, h1, _, h2, _⟩ := hc p.1 (hEl p hp) (hpend _ (hEl p hp) hb)
       have : p = (p.1, φ) := hEu p hp _ h1 rfl
       rw [this]
       exact (h2 _ _).2 rfl
     obtain ⟨o', w1, ho', hrun, hrest⟩ := hfin vs' w hρ hfact'
     obtain rfl : os = o' := Option.some.inj (hos.symm.trans ho')
     have hin' : ∀ j, j < i → listed.getD j false = true → ∀ t, zaU ops j = some t → a.tmps[t]?.getD undef = vs' j := fun j hj hb t hjt => by
      rw [hvs']; simp only [hb, if_true]; exact hin j hj hb t hjt
     have hsame : ∀ x : Operand, zdR ops late x = true → a.eval x = (putL ops vs' (List.range i) a0).eval x := fun x hx => zi6 fun s hs' => by
      subst hs'
      by_cases hxs : ∃ j, j < i ∧ zaU ops j = some s
      ·
       obtain ⟨j, hj, hjt⟩ := hxs
       have hjl : j ∉ late := fun hl => by
        have := List.all_eq_true.1 hx j hl
        simp [hjt] at this
       rw [hin' j hj (hi3 j (hnm j hj hjl)) s hjt, zdr vs' _ _ (List.mem_range.2 hj) hjt (by rw [hN]; exact hsl j hj s hjt) (fun k hk hkt => hun k j (List.mem_range.1 hk) hj s hkt hjt)]
      ·
       rw [hout s (fun j hj _ e => hxs ⟨j, hj, e⟩), zcg vs' _ _ (fun j hj e => hxs ⟨j, List.mem_range.1 hj, e⟩)]
     have hex : execOp a.eval os = execOp (putL ops vs' (List.range i) a0).eval os := by
      unfold execOp
      rw [hop]
      simp only [hsame _ hfree.1, hsame _ hfree.2]
     have hwant : Region.wanted os (yielded ops a.tmps) = true := zae hgd
     unfold wpOp
     simp only [hos, hwant, if_true]
     refine .inl ?_
     unfold Oper.wp
     rw [hex, hrun]
     show wpAny P .any ops Q fuel (listed.setIfInBounds i true) (a.put os.dst undef) w1
     rw [hdst]
     have hL := zcp (ops := ops) (listed := listed) hsz hi1
     refine behind hok hN vs' w1 hrest ?_ fuel _ _ (by simpa using hsz) (ze1 hsz hi1 hib hcn) (by rw [hL, if_pos rfl]) ?_ ?_ hd hs ?_ ?_
     ·
      intro j hj hjl a' hd' hs' hin2 hout2
      obtain ⟨φ, E1, h1, h2, h3, h4⟩ := hc j hj hjl
      have hvj : vs' j = c j := by
       rw [hvs']
       by_cases hb : listed.getD j false = true
       ·
        simp only [hb, if_true]
        exact (h3 _ _).1 (hfact _ h1 hb)
       ·
        simp only [hb, if_false, Bool.false_eq_true]
      obtain ⟨ha, hb⟩ := h4 ops[j] (by simp [show j < ops.size by omega]) a' w hρ ⟨hd', hs', hout2, fun p hp hpn => ⟨vs' p.1, fun t ht => hin2 _ hpn t ht, hfact' p (h2 p hp)⟩⟩
      exact ⟨ops[j], by simp [show j < ops.size by omega], ha, fun w' => by rw [hvj]; exact hb w'⟩
     ·
      intro j hj hjl
      rw [hL, if_neg o9]
      exact hi3 j (hnm j hj hjl)
     ·
      intro j hj hjn
      rw [hL, if_neg o9]; exact hno j o9 hjn
     ·
      intro j hj hb t hjt
      rw [hL, if_neg o9] at hb
      exact hin' j hj hb t hjt
     ·
      intro t ht
      exact hout t (fun j hj _ => ht j hj)
    ·
     exact absurd (hi3 m (htl i him hi1 m him)) (by rw [hno m (Nat.le_refl _) hm]; simp)
 have h0 : ∀ j, (Array.replicate ops.size false).getD j false = false := fun j => by
  rw [Array.getD_eq_getD_getElem?]
  by_cases hj : j < ops.size
  ·
   rw [Array.getElem?_eq_getElem (by simpa using hj)]; simp
  ·
   rw [Array.getElem?_eq_none (by simpa using Nat.le_of_not_lt hj)]; rfl
 refine key ops.size _ (fun _ => undef) a0 w0 s9 ?_ (fun j _ _ => h0 j) (hrefl w0) rfl rfl (fun j _ hb => by rw [h0] at hb; cases hb) (fun _ _ => rfl) (fun p _ hb => by rw [h0] at hb; cases hb)
 have : (List.range ops.size).countP (fun j => (Array.replicate ops.size false).getD j false) = 0 := List.countP_eq_zero.2 fun j _ => by rw [h0]; simp
 omega
theorem zcB {id N : Nat} {a : Act} {w : World} (m : Nat) (late : List Nat) (ρ : World → World → Prop) (hm : P.follows .mixedOrders = true) (hok : rgOkL ops m N late = true) (hN : a.tmps.size = N) (hrefl : ∀ w, ρ w w) (htrans : ∀ {A B C}, ρ A B → ρ B C → ρ A C)
  {os : Oper} {ty : TypeId} {xp xv : Operand} (hos : ops[m]? = some os) (hop : os.op = .store ty xp xv) (hgd : os.guard = none) (hdst : os.dst = none) (hfree : (zdR ops late xp && zdR ops late xv) = true)
  (h : RGL P ops Q ρ a w.drew m late [] (List.range m)) : (Code.region id ops true).wp P Q a w :=
 wp_region_any hm (zkT hok hN hrefl htrans hos hop hgd hdst hfree h)
theorem zjs {E : Env} {i : Nat} {r : List Nat} (φ : Value → World → Prop) (hs : ∀ v w w', ρ w w' → φ v w → φ v w') (ho : Ob P ops Q ρ a0 w0 m E i φ) (h : RGL P ops Q ρ a0 w0 m late ((i, φ) :: E) r) (hl : i ∉ late) : RGL P ops Q ρ a0 w0 m late E (i :: r) :=
 ⟨φ, hs, ho, fun h => absurd h hl, h⟩
theorem zll {E : Env} {i : Nat} {r : List Nat} {o : Oper} (v : Value) (hrefl : ∀ w, ρ w w) (hi : ops[i]? = some o)
  (hw : ∀ a w, ρ w0 w → Seen ops a0 m E i a w → Region.wanted o (yielded ops a.tmps) = true)
  (hr : ∀ a w, ρ w0 w → Seen ops a0 m E i a w → (execOp a.eval o).run P w = .ok (.value v) w) (h : RGL P ops Q ρ a0 w0 m late ((i, fun x _ => x = v) :: E) r) (hl : i ∉ late := by decide) : RGL P ops Q ρ a0 w0 m late E (i :: r) := by
 refine zjs _ (fun _ _ _ _ h => h) (fun o' ho' a w hρ hse => ?_) h hl
 obtain rfl : o = o' := Option.some.inj (hi.symm.trans ho')
 rw [if_pos (hw a w hρ hse)]
 unfold Oper.wp
 rw [hr a w hρ hse]
 exact ⟨v, rfl, hrefl w, rfl⟩
theorem zdv {E : Env} {i : Nat} {r : List Nat} {o : Oper} (φ : Value → World → Prop) (hs : ∀ v w w', ρ w w' → φ v w → φ v w') (hi : ops[i]? = some o)
  (hw : ∀ a w, ρ w0 w → Seen ops a0 m E i a w → Region.wanted o (yielded ops a.tmps) = true)
  (hr : ∀ a w, ρ w0 w → Seen ops a0 m E i a w → ∃ v w', (execOp a.eval o).run P w = .ok (.value v) w' ∧ ρ w w' ∧ φ v w') (h : RGL P ops Q ρ a0 w0 m late ((i, φ) :: E) r) (hl : i ∉ late := by decide) : RGL P ops Q ρ a0 w0 m late E (i :: r) := by
 refine zjs φ hs (fun o' ho' a w hρ hse => ?_) h hl
 obtain rfl : o = o' := Option.some.inj (hi.symm.trans ho')
 rw [if_pos (hw a w hρ hse)]
 obtain ⟨v, w', h1, h2, h3⟩ := hr a w hρ hse
 unfold Oper.wp
 rw [h1]
 exact ⟨v, rfl, h2, h3⟩
theorem zcc {E : Env} {i : Nat} {r : List Nat} {o : Oper} (φ : Value → World → Prop) (hs : ∀ v w w', ρ w w' → φ v w → φ v w') (hrefl : ∀ w, ρ w w) (hi : ops[i]? = some o)
  (hw : ∀ a w, ρ w0 w → Seen ops a0 m E i a w → Region.wanted o (yielded ops a.tmps) = true)
  (hr : ∀ a w, ρ w0 w → Seen ops a0 m E i a w → ∃ v, (execOp a.eval o).run P w = .ok (.value v) w ∧ φ v w) (h : RGL P ops Q ρ a0 w0 m late ((i, φ) :: E) r) (hl : i ∉ late := by decide) : RGL P ops Q ρ a0 w0 m late E (i :: r) :=
 zdv φ hs hi hw (fun a w hρ hse => let ⟨v, h1, h2⟩ := hr a w hρ hse; ⟨v, w, h1, hrefl w, h2⟩) h hl
theorem zbW {E : Env} {i : Nat} {r : List Nat} {o : Oper} {f : FuncId} {fn : Func} {xs : Array Operand} {ts : Array TypeId} (φ : Value → World → Prop) (hs : ∀ v w w', ρ w w' → φ v w → φ v w') (hi : ops[i]? = some o)
  (hop : o.op = .call { callee := .value (.func f), args := xs, argTypes := ts }) (hf : P.funcs[f]? = some fn) (hname : (fn.name == "runtime.NumGoroutine") = false) (hb : fn.body.isSome = true)
  (hw : ∀ a w, ρ w0 w → Seen ops a0 m E i a w → Region.wanted o (yielded ops a.tmps) = true)
  (hr : ∀ a w, ρ w0 w → Seen ops a0 m E i a w → Calls P f (xs.map a.eval) w fun e w' => ∃ v, e = .returned v ∧ ρ w w' ∧ φ v w') (h : RGL P ops Q ρ a0 w0 m late ((i, φ) :: E) r) (hl : i ∉ late := by decide) : RGL P ops Q ρ a0 w0 m late E (i :: r) := by
 refine zjs φ hs (fun o' ho' a w hρ hse => ?_) h hl
 obtain rfl : o = o' := Option.some.inj (hi.symm.trans ho')
 have h1 := call_ (ops := ops) (Q := Q) (oi := o) (N := o.dst) (a := a) (w := w) (K := fun a' w' => ∃ v, a' = a.put o.dst v ∧ ρ w w' ∧ φ v w') f (xs.map a.eval) (hw a w hρ hse) rfl (by
  have he := zc2 hf hname hb (xs.map a.eval) w
  unfold execOp
  simp [hop, resolve, Deferred.ofValue, invoke, Act.eval, he]) ((hr a w hρ hse).mono fun e w' ⟨v, hv, h2, h3⟩ => ⟨v, hv, v, rfl, h2, h3⟩)
 rw [if_pos (hw a w hρ hse)] at h1 ⊢
 exact h1
theorem zdl {E : Env} {i : Nat} {r : List Nat} {o : Oper} (v : Value) (hrefl : ∀ w, ρ w w) (hi : ops[i]? = some o)
  (hw : ∀ a w, ρ w0 w → Seen ops a0 m E i a w → Region.wanted o (yielded ops a.tmps) = true)
  (hr : ∀ a w, ρ w0 w → Seen ops a0 m E i a w → ∀ w', (execOp a.eval o).run P w' = .ok (.value v) w') (h : RGL P ops Q ρ a0 w0 m late ((i, fun x _ => x = v) :: E) r) : RGL P ops Q ρ a0 w0 m late E (i :: r) := by
 refine ⟨fun x _ => x = v, fun _ _ _ _ h => h, fun o' ho' a w hρ hse => ?_, fun _ => ⟨v, fun _ _ => Iff.rfl, fun o' ho' a w hρ hse => ?_⟩, h⟩
 ·
  obtain rfl : o = o' := Option.some.inj (hi.symm.trans ho')
  rw [if_pos (hw a w hρ hse)]
  unfold Oper.wp
  rw [hr a w hρ hse w]
  exact ⟨v, rfl, hrefl w, rfl⟩
 ·
  obtain rfl : o = o' := Option.some.inj (hi.symm.trans ho')
  exact ⟨hw a w hρ hse, hr a w hρ hse⟩
theorem zbv {i : Nat} {r : List Nat} {o : Oper} {a : Act} {w w' : World} (d : Tmp) (v : Value) (hi : ops[i]? = some o) (hd : o.dst = some d) (hw : Region.wanted o (yielded ops a.tmps) = true) (hr : (execOp a.eval o).run P w = .ok (.value v) w')
  (h : wpOps P ops Q r (a.put (some d) v) w') : wpOps P ops Q (i :: r) a w := zc4 v hi hw hr (by rw [hd]; exact h)
theorem zcT {i : Nat} {r : List Nat} {o : Oper} {a : Act} {w w' : World} (hi : ops[i]? = some o) (hd : o.dst = none) (hw : Region.wanted o (yielded ops a.tmps) = true) (hr : (execOp a.eval o).run P w = .ok .skip w')
  (h : wpOps P ops Q r a w') : wpOps P ops Q (i :: r) a w := zcQ hi hw hr (by rw [hd]; exact h)
end
end Go.Proofs.YtinkbljjpafadaaRG
end

section
namespace Go.Proofs.YtinkbljjpafadaaRG
open Go.Proofs.YtinkbljjpafadaaW.PrintLast Go.Proofs.YtinkbljjpafadaaW.PrintWords
theorem Seen.gv {ops : Array Oper} {a0 : Act} {m : Nat} {E : Env} {i : Nat} {a : Act} {w : World} (h : Seen ops a0 m E i a w) (k : Nat) {j : Nat} {V : Value} (hk : E[k]? = some (j, fun x _ => x = V)) {t : Tmp} (ht : zaU ops j = some t) (hn : (needs ops i).contains j = true := by kernel_rfl) : a.tmps[t]?.getD undef = V := h.get k hk hn ht
theorem Seen.ov {ops : Array Oper} {a0 : Act} {m : Nat} {E : Env} {i : Nat} {a : Act} {w : World} (h : Seen ops a0 m E i a w) (t : Tmp) (V : Value) (hV : a0.tmps[t]?.getD undef = V := by rfl) (ht : (((List.range m).filterMap (zaU ops)).contains t) = false := by kernel_rfl) : a.tmps[t]?.getD undef = V := (h.out t ht).trans hV
end Go.Proofs.YtinkbljjpafadaaRG
end

section
namespace Go.Proofs.YtinkbljjpafadaaWords
open Go.RowKit Go.Proofs.YtinkbljjpafadaaW.PrintWords Go.Proofs.YtinkbljjpafadaaW.PrintLast Go.Proofs.YtinkbljjpafadaaRF Go.Proofs.YtinkbljjpafadaaRG
attribute [local go_sem] Oper.semAt_some
def small (c : Int) : Bool := decide (97 ≤ c) && decide (c ≤ 122)
def great (c : Int) : Bool := decide (65 ≤ c) && decide (c ≤ 90)
def digit (c : Int) : Bool := decide (48 ≤ c) && decide (c ≤ 57)
def sign (c : Int) : Bool := small c || great c || digit c
def signs (s : ByteArray) (i : Nat) : Bool := (s.data.toList.drop i).all fun c => sign (c.toNat : Int)
def word (first : Int → Bool) (s : ByteArray) : Bool := decide (0 < s.size) && decide (s.size ≤ 20) && first (bt s 0) && signs s 0
theorem ziJ (s : ByteArray) {i : Nat} (h : s.size ≤ i) : signs s i = true := by
 unfold signs
 rw [List.drop_of_length_le (by simpa using h)]; rfl
theorem zkn (s : ByteArray) {i : Nat} (h : i < s.size) : signs s i = (sign ((s[i]'h).toNat : Int) && signs s (i + 1)) := by
 unfold signs
 rw [List.drop_eq_getElem_cons (by simpa using h), List.all_cons]; rfl
theorem zc0 (c : Int) (w : World) : Calls Try.prog 58 #[.int .u8 c] w fun e w' => e = .returned (.bool (small c)) ∧ w' = w := by
 unfold small
 by_cases h : 97 ≤ c
 ·
  have h1 : decide (97 ≤ c) = true := by simpa using h
  go_enter Try.func58, Try.ntmps58
  go_wp2
  go_ret
  exact ⟨by rw [h1]; rfl, rfl⟩
 ·
  have h1 : decide (97 ≤ c) = false := by simpa using h
  go_enter Try.func58, Try.ntmps58
  go_wp2
  go_ret
  exact ⟨rfl, rfl⟩
theorem zco (c : Int) (w : World) : Calls Try.prog 41 #[.int .u8 c] w fun e w' => e = .returned (.bool (great c)) ∧ w' = w := by
 unfold great
 by_cases h : 65 ≤ c
 ·
  have h1 : decide (65 ≤ c) = true := by simpa using h
  go_enter Try.func41, Try.ntmps41
  go_wp2
  go_ret
  exact ⟨by rw [h1]; rfl, rfl⟩
 ·
  have h1 : decide (65 ≤ c) = false := by simpa using h
  go_enter Try.func41, Try.ntmps41
  go_wp2
  go_ret
  exact ⟨rfl, rfl⟩
theorem zcX (c : Int) (w : World) : Calls Try.prog 59 #[.int .u8 c] w fun e w' => e = .returned (.bool (digit c)) ∧ w' = w := by
 unfold digit
 by_cases h : 48 ≤ c
 ·
  have h1 : decide (48 ≤ c) = true := by simpa using h
  go_enter Try.func59, Try.ntmps59
  go_wp2
  go_ret
  exact ⟨by rw [h1]; rfl, rfl⟩
 ·
  have h1 : decide (48 ≤ c) = false := by simpa using h
  go_enter Try.func59, Try.ntmps59
  go_wp2
  go_ret
  exact ⟨rfl, rfl⟩
theorem zh8 (s : ByteArray) (w : World) (hs : s.size ≤ maxLen) :
  Calls Try.prog 40 #[.string s, .func (.func 41) #[] #[]] w fun e w' => e = .returned (.bool (word great s)) ∧ Below w.heap.size w w' := by
 unfold maxLen at hs
 have hsz : s.toList.length = s.size := by rw [ByteArray.toList_eq, Array.length_toList]; rfl
 by_cases h0 : s.toList = []
 ·
  have h0b : (!s.toList.isEmpty) = false := by rw [h0]; rfl
  have hw : word great s = false := by
   unfold word
   have : s.size = 0 := by rw [← hsz, h0]; rfl
   rw [this]; rfl
  have HW := zaa.mk hw
  clear hw hsz
  go_enter Try.func40, Try.ntmps40
  go_wp2
  go_ret
  exact ⟨by rw [HW.out]; rfl, (Below.refl _ _).alloc (Nat.le_refl _) _⟩
 have h0b : (!s.toList.isEmpty) = true := by cases h : s.toList <;> simp_all
 have h0c : s.toList.isEmpty = false := by simpa using h0b
 have hpos : 0 < s.size := by rw [← hsz]; exact List.length_pos_iff.2 h0
 by_cases h20 : 20 < s.size
 ·
  have hw : word great s = false := by
   unfold word
   rw [show decide (s.size ≤ 20) = false by simpa using h20]
   simp
  have hd : decide (20 < (s.size : Int)) = true := by simp; omega
  have HW := zaa.mk hw
  clear hw hsz
  go_enter Try.func40, Try.ntmps40
  go_wp2
  go_ret
  exact ⟨by rw [HW.out]; rfl, (Below.refl _ _).alloc (Nat.le_refl _) _⟩
 have hd : decide (20 < (s.size : Int)) = false := by simp; omega
 have hbt : bt s 0 = ((s[0]'hpos).toNat : Int) := by unfold bt; simp [hpos]
 obtain ⟨b, hb⟩ : ∃ b, b = great ((s[0]'hpos).toNat : Int) := ⟨_, rfl⟩
 have HBT := zaa.mk hbt
 clear hsz hbt
 cases b with
 | false =>
  have HW := zaa.mk (show word great s = false by unfold word; rw [HBT.out, ← hb]; simp)
  have HB := zaa.mk hb
  clear hb
  go_enter Try.func40, Try.ntmps40
  go_wp2_with (go_at_call 41; refine (zco _ _).mono ?_; rintro e w' ⟨rfl, rfl⟩; rw [← HB.out])
  go_ret
  exact ⟨by rw [HW.out]; rfl, (Below.refl _ _).alloc (Nat.le_refl _) _⟩
 | true =>
  have HW := zaa.mk (show word great s = signs s 0 by unfold word; rw [HBT.out, ← hb, show decide (0 < s.size) = true by simpa using hpos, show decide (s.size ≤ 20) = true by simp; simpa using h20]; simp)
  have HB := zaa.mk hb
  clear hb
  go_enter Try.func40, Try.ntmps40
  go_wp2_with (go_at_call 41; refine (zco _ _).mono ?_; rintro e w' ⟨rfl, rfl⟩; rw [← HB.out])
  go_loopw [24] (fun v24 wr => ∃ i : Nat, i ≤ s.size ∧ v24 = .int .i64 i ∧ zaa (signs s 0 = signs s i ∧ Below w.heap.size w wr ∧ wr.heap[w.heap.size]? = some (.cells #[.func (.func 58) #[] #[], .func (.func 41) #[] #[], .func (.func 59) #[] #[]] 101 (0, 0))))
   (fun v24 _ => s.size - (intOf v24).toNat)
  case atStart => exact ⟨0, Nat.zero_le _, rfl, ⟨rfl, (Below.refl _ _).alloc (Nat.le_refl _) _, at_new _ _ rfl⟩⟩
  case round =>
   obtain ⟨i, hi, rfl, ⟨hsg, hbl, hbox⟩⟩ := hrel
   have HSG := zaa.mk hsg
   have HBL := zaa.mk hbl
   have HBX := zaa.mk hbox
   have k0 := zad hbox 0
   have k1 := zad hbox 1
   have k2 := zad hbox 2
   simp only [List.getElem?_toArray, List.getElem?_cons_zero, List.getElem?_cons_succ] at k0 k1 k2
   clear hsg hbl hbox
   by_cases hlt : i < s.size
   ·
    have HN := zaa.mk (zkn s hlt)
    obtain ⟨c, hc⟩ : ∃ c : Int, c = ((s[i]'hlt).toNat : Int) := ⟨_, rfl⟩
    clear hc
    cases hs1 : small ((s[i]'hlt).toNat : Int) with
    | true =>
     have HS := zaa.mk (show sign ((s[i]'hlt).toNat : Int) = true by unfold sign; rw [hs1]; rfl)
     go_wp2_with fail
     go_quiet (first | (go_at_call 58; exact Calls.quiet_of_same (zc0 _ _)) | (go_at_call 41; exact Calls.quiet_of_same (zco _ _)) | (go_at_call 59; exact Calls.quiet_of_same (zcX _ _)))
     go_wp2_with fail
     go_roundw
     case rel => exact ⟨i + 1, by omega, by go_num, ⟨by rw [HSG.out, HN.out, HS.out]; rfl, zbm HBL.out _, HBX.out⟩⟩
     case measure => simp [intOf]; omega
    | false =>
     cases hs2 : great ((s[i]'hlt).toNat : Int) with
     | true =>
      have HS := zaa.mk (show sign ((s[i]'hlt).toNat : Int) = true by unfold sign; rw [hs1, hs2]; rfl)
      go_wp2_with fail
      go_quiet (first | (go_at_call 58; exact Calls.quiet_of_same (zc0 _ _)) | (go_at_call 41; exact Calls.quiet_of_same (zco _ _)) | (go_at_call 59; exact Calls.quiet_of_same (zcX _ _)))
      go_wp2_with fail
      go_roundw
      case rel => exact ⟨i + 1, by omega, by go_num, ⟨by rw [HSG.out, HN.out, HS.out]; rfl, zbm HBL.out _, HBX.out⟩⟩
      case measure => simp [intOf]; omega
     | false =>
      cases hs3 : digit ((s[i]'hlt).toNat : Int) with
      | true =>
       have HS := zaa.mk (show sign ((s[i]'hlt).toNat : Int) = true by unfold sign; rw [hs1, hs2, hs3]; rfl)
       go_wp2_with fail
       go_quiet (first | (go_at_call 58; exact Calls.quiet_of_same (zc0 _ _)) | (go_at_call 41; exact Calls.quiet_of_same (zco _ _)) | (go_at_call 59; exact Calls.quiet_of_same (zcX _ _)))
       go_wp2_with fail
       go_roundw
       case rel => exact ⟨i + 1, by omega, by go_num, ⟨by rw [HSG.out, HN.out, HS.out]; rfl, zbm HBL.out _, HBX.out⟩⟩
       case measure => simp [intOf]; omega
      | false =>
       have HS := zaa.mk (show sign ((s[i]'hlt).toNat : Int) = false by unfold sign; rw [hs1, hs2, hs3]; rfl)
       go_wp2_with fail
       go_quiet (first | (go_at_call 58; exact Calls.quiet_of_same (zc0 _ _)) | (go_at_call 41; exact Calls.quiet_of_same (zco _ _)) | (go_at_call 59; exact Calls.quiet_of_same (zcX _ _)))
       go_wp2_with fail
       go_ret
       exact ⟨by rw [HW.out, HSG.out, HN.out, HS.out]; rfl, zbm HBL.out _⟩
   ·
    have HE := zaa.mk (ziJ s (i := i) o9)
    go_wp2_with fail
    go_ret
    exact ⟨by rw [HW.out, HSG.out, HE.out]; rfl, HBL.out⟩
theorem zgS (w : World) : Calls Try.prog 62 #[] w fun e w' => e = .returned (.agg #[.string ⟨#[105, 110, 116]⟩, .string ⟨#[114, 101, 97, 108]⟩, .string ⟨#[98, 111, 111, 108]⟩, .string ⟨#[115, 116, 114]⟩, .string ⟨#[117, 110, 105, 116]⟩]) ∧ Below w.heap.size w w' := by
 go_enter Try.func62, Try.ntmps62
 go_wp2
 exact bodyPost_ret (v := .agg #[.string ⟨#[105, 110, 116]⟩, .string ⟨#[114, 101, 97, 108]⟩, .string ⟨#[98, 111, 111, 108]⟩, .string ⟨#[115, 116, 114]⟩, .string ⟨#[117, 110, 105, 116]⟩]) (by simp [results, Try.results62, go_sem]) rfl ⟨rfl, (Below.refl _ _).alloc (Nat.le_refl _) _⟩
def tag (s : ByteArray) : Int :=
 if s.toList = [105, 110, 116] then 1 else if s.toList = [114, 101, 97, 108] then 2 else if s.toList = [98, 111, 111, 108] then 3 else if s.toList = [115, 116, 114] then 4 else if s.toList = [117, 110, 105, 116] then 5 else 0
def base (i : Nat) : ByteArray := ([⟨#[105, 110, 116]⟩, ⟨#[114, 101, 97, 108]⟩, ⟨#[98, 111, 111, 108]⟩, ⟨#[115, 116, 114]⟩, ⟨#[117, 110, 105, 116]⟩] : List ByteArray).getD i ByteArray.empty
theorem zhg (w : World) (i : Nat) (h : i < 5) : (Instr.index 110 (.agg #[.string ⟨#[105, 110, 116]⟩, .string ⟨#[114, 101, 97, 108]⟩, .string ⟨#[98, 111, 111, 108]⟩, .string ⟨#[115, 116, 114]⟩, .string ⟨#[117, 110, 105, 116]⟩]) (.int .i64 (i : Int))).run Try.prog w = .ok (.string (base i)) w := by
 rcases (by omega : i = 0 ∨ i = 1 ∨ i = 2 ∨ i = 3 ∨ i = 4) with rfl | rfl | rfl | rfl | rfl <;> kernel_rfl
def tag2 (s : ByteArray) : Int × Int := if tag s = 0 then (0, 7) else (tag s, 0)
theorem base0 : (base 0).toList = [105, 110, 116] := by rw [ByteArray.toList_eq]; rfl
theorem base1 : (base 1).toList = [114, 101, 97, 108] := by rw [ByteArray.toList_eq]; rfl
theorem base2 : (base 2).toList = [98, 111, 111, 108] := by rw [ByteArray.toList_eq]; rfl
theorem base3 : (base 3).toList = [115, 116, 114] := by rw [ByteArray.toList_eq]; rfl
theorem base4 : (base 4).toList = [117, 110, 105, 116] := by rw [ByteArray.toList_eq]; rfl
theorem zdT {s : ByteArray} {i : Nat} (hi : i < 5) (h : (base i).toList = s.toList) : tag2 s = ((i : Int) + 1, 0) := by
 unfold tag2 tag
 rcases (by omega : i = 0 ∨ i = 1 ∨ i = 2 ∨ i = 3 ∨ i = 4) with rfl | rfl | rfl | rfl | rfl <;> rw [← h] <;> simp [base0, base1, base2, base3, base4]
theorem zkx {s : ByteArray} (h : ∀ j, j < 5 → (base j).toList ≠ s.toList) : tag2 s = (0, 7) := by
 have h0 : s.toList ≠ [105, 110, 116] := fun e => h 0 o9 (base0.trans e.symm)
 have h1 : s.toList ≠ [114, 101, 97, 108] := fun e => h 1 o9 (base1.trans e.symm)
 have h2 : s.toList ≠ [98, 111, 111, 108] := fun e => h 2 o9 (base2.trans e.symm)
 have h3 : s.toList ≠ [115, 116, 114] := fun e => h 3 o9 (base3.trans e.symm)
 have h4 : s.toList ≠ [117, 110, 105, 116] := fun e => h 4 o9 (base4.trans e.symm)
 unfold tag2 tag
 rw [if_neg h0, if_neg h1, if_neg h2, if_neg h3, if_neg h4]; rfl
theorem zjv (s : ByteArray) (w : World) (x y : Int) (hxy : tag2 s = (x, y)) : Calls Try.prog 44 #[.string s] w fun e w' => e = .returned (.tuple #[.int .i64 x, .int .i64 y]) ∧ Below w.heap.size w w' := by
 have HXY := zaa.mk hxy
 clear hxy
 have ix := fun w => zhg w
 go_enter Try.func44, Try.ntmps44
 go_wp2_with (go_at_call 62; refine (zgS _).mono ?_; rintro e w' ⟨rfl, hb⟩; have HB := zaa.mk hb; clear hb)
 go_loop [7] (fun v7 => ∃ i : Nat, i ≤ 5 ∧ v7 = .int .i64 i ∧ zaa (∀ j, j < i → (base j).toList ≠ s.toList)) (fun v7 => 5 - (intOf v7).toNat)
 case atStart => exact ⟨0, by omega, rfl, ⟨fun j h => by omega⟩⟩
 case round =>
  obtain ⟨i, hi, rfl, HN⟩ := hrel
  by_cases hlt : i < 5
  ·
   have hx := fun w => ix w i hlt
   obtain ⟨b, hb⟩ : ∃ b, b = base i := ⟨_, rfl⟩
   rw [← hb] at hx
   have HBI := zaa.mk hb
   clear ix hb
   by_cases he : b.toList = s.toList
   ·
    have HE := zaa.mk (zdT hlt (HBI.out ▸ he))
    have hq : (b.toList == s.toList) = true := by simpa using he
    clear he
    go_wp2_with fail
    go_ret2
    obtain ⟨rfl, rfl⟩ := Prod.mk.inj (HXY.out.symm.trans HE.out)
    exact ⟨rfl, HB.out⟩
   ·
    have HE := zaa.mk he
    have hq : (b.toList == s.toList) = false := by simpa using he
    clear he
    go_wp2_with fail
    go_round
    case rel => exact ⟨i + 1, by omega, by go_num, ⟨fun j hj => by
     by_cases hji : j = i
     ·
      rw [hji, ← HBI.out]; exact HE.out
     ·
      exact HN.out j o9⟩⟩
    case measure => simp [intOf]; omega
  ·
   have hi5 : i = 5 := by omega
   have HE := zaa.mk (zkx (hi5 ▸ HN.out))
   obtain ⟨rfl, rfl⟩ := Prod.mk.inj (HXY.out.symm.trans HE.out)
   clear hi5
   go_wp2_with fail
   go_ret2
   exact ⟨rfl, HB.out⟩
end Go.Proofs.YtinkbljjpafadaaWords
end

section
namespace Go.Proofs.Ytinkbljjpafadaa.PAll
open Go.RowKit Go.Proofs.YtinkbljjpafadaaW.PrintWords Go.Proofs.YtinkbljjpafadaaW.PrintLast Go.Proofs.YtinkbljjpafadaaW.zaT
attribute [local go_sem] za7 zba zbo zbp zaW zaV za8 za9
def errW : Option Int → Value
 | none => .nilIface
 | some c => .iface 0 (.int .i64 c)
theorem zaz : errW none = .nilIface := rfl
theorem zaA (c : Int) : errW (some c) = .iface 0 (.int .i64 c) := rfl
theorem info9 : (Try.prog.info? 9).map (fun i => (i.zero, i.size, i.bytes)) = some (some (.string ⟨#[]⟩), 1, 16) := by kernel_rfl
theorem zkN : (Try.prog.info? 33).map (fun i => (i.zero, i.size, i.bytes)) = some (some (.agg #[(.string ⟨#[]⟩), (.int .i64 0)]), 2, 24) := by kernel_rfl
theorem zlD : (Try.prog.info? 35).map (fun i => (i.zero, i.size, i.bytes)) = some (some (.agg #[(.bool false), (.string ⟨#[]⟩), (.int .i64 0)]), 3, 32) := by kernel_rfl
structure S58 where
 f0 : ByteArray
 f1 : ByteArray
def z58 : S58 := ⟨(⟨#[]⟩ : ByteArray), (⟨#[]⟩ : ByteArray)⟩
def k58 : Kd S58 := Kd.iso (Kd.pair Kd.string Kd.string) (fun x : S58 => (x.f0, x.f1))
theorem zks {w : World} {x : S58} {cs : List Value} (h : k58.K w x cs) : cs = [.string x.f0, .string x.f1] := by
 obtain ⟨_, _, rfl, rfl, rfl⟩ := h
 exact rfl
theorem zf0 (w : World) (base : Nat) (ok : Nat → Prop) (x : S58)  : k58.M w base ok x [.string x.f0, .string x.f1] := ⟨[.string x.f0], [.string x.f1], rfl, rfl, rfl⟩
def zbG (xs : List S58) (i : Int) : S58 := xs.getD i.toNat z58
theorem zdS {w : World} {A : Option Addr} {n : Nat} {xs : List S58} (h : Kd.C k58 w A n xs) (i : Int) (h0 : 0 ≤ i) (h1 : i < n) : ∃ ad , A = some ad ∧ w.cell? (ad.add (i.toNat * 2)) = some (.string (zbG xs i).f0) ∧ w.cell? ⟨(ad.add (i.toNat * 2)).block, (ad.add (i.toNat * 2)).off + 1, none⟩ = some (.string (zbG xs i).f1) := by
 obtain ⟨ad, c, e, _, hK, hc0⟩ := Kd.C_get h z58 i h0 h1
 have hc : ∀ j u, c[j]? = some u → w.cell? (ad.add (i.toNat * 2 + j)) = some u := hc0
 obtain rfl := zks hK
 exact ⟨ad, e, hc 0 _ rfl, by rw [← zcb _ _ 1 o9]; exact hc 1 _ rfl⟩
structure S61 where
 f0 : ByteArray
 f1 : (List S58)
 f2 : ByteArray
def z61 : S61 := ⟨(⟨#[]⟩ : ByteArray), ([] : List S58), (⟨#[]⟩ : ByteArray)⟩
def k61 : Kd S61 := Kd.iso (Kd.pair Kd.string (Kd.pair (Kd.slice 58 k58) Kd.string)) (fun x : S61 => (x.f0, x.f1, x.f2))
theorem zjY {w : World} {x : S61} {cs : List Value} (h : k61.K w x cs) : ∃ A1 c1, cs = [.string x.f0, .slice A1 x.f1.length c1, .string x.f2] ∧ x.f1.length ≤ c1 ∧ k58.C w A1 x.f1.length x.f1 := by
 obtain ⟨_, _, rfl, rfl, ⟨_, _, rfl, ⟨A1, c1, rfl, l1, g1⟩, rfl⟩⟩ := h
 exact ⟨A1, c1, rfl, l1, g1⟩
theorem zix {w : World} {base : Nat} {ok : Nat → Prop} {x : S61} {cs : List Value} (h : k61.M w base ok x cs) : ∃ v1, cs = [.string x.f0, v1, .string x.f2] ∧ k58.R 58 w base ok v1 x.f1 := by
 obtain ⟨_, _, rfl, rfl, ⟨_, _, rfl, ⟨v1, rfl, g1⟩, rfl⟩⟩ := h
 exact ⟨v1, rfl, g1⟩
theorem zlR (w : World) (x : S61) {A1 : Option Addr} {c1 : Nat} (l1 : x.f1.length ≤ c1) (g1 : k58.C w A1 x.f1.length x.f1) : k61.K w x [.string x.f0, .slice A1 x.f1.length c1, .string x.f2] := ⟨[.string x.f0], [.slice A1 x.f1.length c1, .string x.f2], rfl, rfl, ⟨[.slice A1 x.f1.length c1], [.string x.f2], rfl, ⟨A1, c1, rfl, l1, g1⟩, rfl⟩⟩
theorem ziH (w : World) (base : Nat) (ok : Nat → Prop) (x : S61) {v1 : Value} (g1 : k58.R 58 w base ok v1 x.f1) : k61.M w base ok x [.string x.f0, v1, .string x.f2] := ⟨[.string x.f0], [v1, .string x.f2], rfl, rfl, ⟨[v1], [.string x.f2], rfl, ⟨v1, rfl, g1⟩, rfl⟩⟩
theorem zk1 (W : World) (ok : Nat → Prop) (x : S61) {A1 : Option Addr} {c1 : Nat} (l1 : x.f1.length ≤ c1) (g1 : Kd.F k58 W ok A1 x.f1.length x.f1) : Kd.FK k61 W ok x [.string x.f0, .slice A1 x.f1.length c1, .string x.f2] := fun W2 hW => zlR W2 x l1 (g1 W2 hW)
def za6 (xs : List S61) (i : Int) : S61 := xs.getD i.toNat z61
theorem zdM {w : World} {A : Option Addr} {n : Nat} {xs : List S61} (h : Kd.C k61 w A n xs) (i : Int) (h0 : 0 ≤ i) (h1 : i < n) : ∃ ad A1 c1, A = some ad ∧ w.cell? (ad.add (i.toNat * 3)) = some (.string (za6 xs i).f0) ∧ w.cell? ⟨(ad.add (i.toNat * 3)).block, (ad.add (i.toNat * 3)).off + 1, none⟩ = some (.slice A1 (za6 xs i).f1.length c1) ∧ w.cell? ⟨(ad.add (i.toNat * 3)).block, (ad.add (i.toNat * 3)).off + 2, none⟩ = some (.string (za6 xs i).f2) ∧ (za6 xs i).f1.length ≤ c1 ∧ k58.C w A1 (za6 xs i).f1.length (za6 xs i).f1 := by
 obtain ⟨ad, c, e, _, hK, hc0⟩ := Kd.C_get h z61 i h0 h1
 have hc : ∀ j u, c[j]? = some u → w.cell? (ad.add (i.toNat * 3 + j)) = some u := hc0
 obtain ⟨A1, c1, rfl, l1, g1⟩ := zjY hK
 exact ⟨ad, A1, c1, e, hc 0 _ rfl, by rw [← zcb _ _ 1 o9]; exact hc 1 _ rfl, by rw [← zcb _ _ 2 o9]; exact hc 2 _ rfl, l1, g1⟩
structure S64 where
 f0 : ByteArray
 f1 : ByteArray
 f2 : (List S58)
 f3 : (List S61)
def z64 : S64 := ⟨(⟨#[]⟩ : ByteArray), (⟨#[]⟩ : ByteArray), ([] : List S58), ([] : List S61)⟩
def k64 : Kd S64 := Kd.iso (Kd.pair Kd.string (Kd.pair Kd.string (Kd.pair (Kd.slice 58 k58) (Kd.slice 61 k61)))) (fun x : S64 => (x.f0, x.f1, x.f2, x.f3))
theorem zko {w : World} {x : S64} {cs : List Value} (h : k64.K w x cs) : ∃ A2 c2 A3 c3, cs = [.string x.f0, .string x.f1, .slice A2 x.f2.length c2, .slice A3 x.f3.length c3] ∧ x.f2.length ≤ c2 ∧ k58.C w A2 x.f2.length x.f2 ∧ x.f3.length ≤ c3 ∧ k61.C w A3 x.f3.length x.f3 := by
 obtain ⟨_, _, rfl, rfl, ⟨_, _, rfl, rfl, ⟨_, _, rfl, ⟨A2, c2, rfl, l2, g2⟩, ⟨A3, c3, rfl, l3, g3⟩⟩⟩⟩ := h
 exact ⟨A2, c2, A3, c3, rfl, l2, g2, l3, g3⟩
theorem zlw (w : World) (x : S64) {A2 : Option Addr} {c2 : Nat} (l2 : x.f2.length ≤ c2) (g2 : k58.C w A2 x.f2.length x.f2) {A3 : Option Addr} {c3 : Nat} (l3 : x.f3.length ≤ c3) (g3 : k61.C w A3 x.f3.length x.f3) : k64.K w x [.string x.f0, .string x.f1, .slice A2 x.f2.length c2, .slice A3 x.f3.length c3] := ⟨[.string x.f0], [.string x.f1, .slice A2 x.f2.length c2, .slice A3 x.f3.length c3], rfl, rfl, ⟨[.string x.f1], [.slice A2 x.f2.length c2, .slice A3 x.f3.length c3], rfl, rfl, ⟨[.slice A2 x.f2.length c2], [.slice A3 x.f3.length c3], rfl, ⟨A2, c2, rfl, l2, g2⟩, ⟨A3, c3, rfl, l3, g3⟩⟩⟩⟩
theorem zg7 (W : World) (ok : Nat → Prop) (x : S64) {A2 : Option Addr} {c2 : Nat} (l2 : x.f2.length ≤ c2) (g2 : Kd.F k58 W ok A2 x.f2.length x.f2) {A3 : Option Addr} {c3 : Nat} (l3 : x.f3.length ≤ c3) (g3 : Kd.F k61 W ok A3 x.f3.length x.f3) : Kd.FK k64 W ok x [.string x.f0, .string x.f1, .slice A2 x.f2.length c2, .slice A3 x.f3.length c3] := fun W2 hW => zlw W2 x l2 (g2 W2 hW) l3 (g3 W2 hW)
def zar (xs : List S64) (i : Int) : S64 := xs.getD i.toNat z64
theorem zdD {w : World} {A : Option Addr} {n : Nat} {xs : List S64} (h : Kd.C k64 w A n xs) (i : Int) (h0 : 0 ≤ i) (h1 : i < n) : ∃ ad A2 c2 A3 c3, A = some ad ∧ w.cell? (ad.add (i.toNat * 4)) = some (.string (zar xs i).f0) ∧ w.cell? ⟨(ad.add (i.toNat * 4)).block, (ad.add (i.toNat * 4)).off + 1, none⟩ = some (.string (zar xs i).f1) ∧ w.cell? ⟨(ad.add (i.toNat * 4)).block, (ad.add (i.toNat * 4)).off + 2, none⟩ = some (.slice A2 (zar xs i).f2.length c2) ∧ w.cell? ⟨(ad.add (i.toNat * 4)).block, (ad.add (i.toNat * 4)).off + 3, none⟩ = some (.slice A3 (zar xs i).f3.length c3) ∧ (zar xs i).f2.length ≤ c2 ∧ k58.C w A2 (zar xs i).f2.length (zar xs i).f2 ∧ (zar xs i).f3.length ≤ c3 ∧ k61.C w A3 (zar xs i).f3.length (zar xs i).f3 := by
 obtain ⟨ad, c, e, _, hK, hc0⟩ := Kd.C_get h z64 i h0 h1
 have hc : ∀ j u, c[j]? = some u → w.cell? (ad.add (i.toNat * 4 + j)) = some u := hc0
 obtain ⟨A2, c2, A3, c3, rfl, l2, g2, l3, g3⟩ := zko hK
 exact ⟨ad, A2, c2, A3, c3, e, hc 0 _ rfl, by rw [← zcb _ _ 1 o9]; exact hc 1 _ rfl, by rw [← zcb _ _ 2 o9]; exact hc 2 _ rfl, by rw [← zcb _ _ 3 o9]; exact hc 3 _ rfl, l2, g2, l3, g3⟩
structure S33 where
 f0 : ByteArray
 f1 : Int
def z33 : S33 := ⟨(⟨#[]⟩ : ByteArray), (0 : Int)⟩
def k33 : Kd S33 := Kd.iso (Kd.pair Kd.string (Kd.int .i64)) (fun x : S33 => (x.f0, x.f1))
theorem zjQ {w : World} {x : S33} {cs : List Value} (h : k33.K w x cs) : cs = [.string x.f0, .int .i64 x.f1] := by
 obtain ⟨_, _, rfl, rfl, rfl⟩ := h
 exact rfl
theorem zd9 (w : World) (base : Nat) (ok : Nat → Prop) (x : S33)  : k33.M w base ok x [.string x.f0, .int .i64 x.f1] := ⟨[.string x.f0], [.int .i64 x.f1], rfl, rfl, rfl⟩
def zbH (xs : List S33) (i : Int) : S33 := xs.getD i.toNat z33
theorem zdN {w : World} {A : Option Addr} {n : Nat} {xs : List S33} (h : Kd.C k33 w A n xs) (i : Int) (h0 : 0 ≤ i) (h1 : i < n) : ∃ ad , A = some ad ∧ w.cell? (ad.add (i.toNat * 2)) = some (.string (zbH xs i).f0) ∧ w.cell? ⟨(ad.add (i.toNat * 2)).block, (ad.add (i.toNat * 2)).off + 1, none⟩ = some (.int .i64 (zbH xs i).f1) := by
 obtain ⟨ad, c, e, _, hK, hc0⟩ := Kd.C_get h z33 i h0 h1
 have hc : ∀ j u, c[j]? = some u → w.cell? (ad.add (i.toNat * 2 + j)) = some u := hc0
 obtain rfl := zjQ hK
 exact ⟨ad, e, hc 0 _ rfl, by rw [← zcb _ _ 1 o9]; exact hc 1 _ rfl⟩
structure S35 where
 f0 : Bool
 f1 : ByteArray
 f2 : Int
def z35 : S35 := ⟨false, (⟨#[]⟩ : ByteArray), (0 : Int)⟩
def k35 : Kd S35 := Kd.iso (Kd.pair Kd.bool (Kd.pair Kd.string (Kd.int .i64))) (fun x : S35 => (x.f0, x.f1, x.f2))
theorem zkc : Kd.Heap k35 := Kd.zjO _ (Kd.zgK Kd.zjA (Kd.zgK Kd.zhf (Kd.zkf .i64)))
theorem zkp {w : World} {x : S35} {cs : List Value} (h : k35.K w x cs) : cs = [.bool x.f0, .string x.f1, .int .i64 x.f2] := by
 obtain ⟨_, _, rfl, rfl, ⟨_, _, rfl, rfl, rfl⟩⟩ := h
 exact rfl
theorem zce (w : World) (base : Nat) (ok : Nat → Prop) (x : S35)  : k35.M w base ok x [.bool x.f0, .string x.f1, .int .i64 x.f2] := ⟨[.bool x.f0], [.string x.f1, .int .i64 x.f2], rfl, rfl, ⟨[.string x.f1], [.int .i64 x.f2], rfl, rfl, rfl⟩⟩
def za3 (xs : List S35) (i : Int) : S35 := xs.getD i.toNat z35
theorem zcR {w : World} {A : Option Addr} {n : Nat} {xs : List S35} (h : Kd.C k35 w A n xs) (i : Int) (h0 : 0 ≤ i) (h1 : i < n) : ∃ ad , A = some ad ∧ w.cell? (ad.add (i.toNat * 3)) = some (.bool (za3 xs i).f0) ∧ w.cell? ⟨(ad.add (i.toNat * 3)).block, (ad.add (i.toNat * 3)).off + 1, none⟩ = some (.string (za3 xs i).f1) ∧ w.cell? ⟨(ad.add (i.toNat * 3)).block, (ad.add (i.toNat * 3)).off + 2, none⟩ = some (.int .i64 (za3 xs i).f2) := by
 obtain ⟨ad, c, e, _, hK, hc0⟩ := Kd.C_get h z35 i h0 h1
 have hc : ∀ j u, c[j]? = some u → w.cell? (ad.add (i.toNat * 3 + j)) = some u := hc0
 obtain rfl := zkp hK
 exact ⟨ad, e, hc 0 _ rfl, by rw [← zcb _ _ 1 o9]; exact hc 1 _ rfl, by rw [← zcb _ _ 2 o9]; exact hc 2 _ rfl⟩
structure S27 where
 f0 : Int
 f1 : Int
 f2 : Int
 f3 : ByteArray
 f4 : (List S35)
def k27 : Kd S27 := Kd.iso (Kd.pair (Kd.int .i64) (Kd.pair (Kd.int .i64) (Kd.pair (Kd.int .u64) (Kd.pair Kd.string (Kd.slice 35 k35))))) (fun x : S27 => (x.f0, x.f1, x.f2, x.f3, x.f4))
theorem k27_open {w : World} {x : S27} {cs : List Value} (h : k27.K w x cs) : ∃ A4 c4, cs = [.int .i64 x.f0, .int .i64 x.f1, .int .u64 x.f2, .string x.f3, .slice A4 x.f4.length c4] ∧ x.f4.length ≤ c4 ∧ k35.C w A4 x.f4.length x.f4 := by
 obtain ⟨_, _, rfl, rfl, ⟨_, _, rfl, rfl, ⟨_, _, rfl, rfl, ⟨_, _, rfl, rfl, ⟨A4, c4, rfl, l4, g4⟩⟩⟩⟩⟩ := h
 exact ⟨A4, c4, rfl, l4, g4⟩
end Go.Proofs.Ytinkbljjpafadaa.PAll
end

section
namespace Go.Proofs.YtinkbljjpafadaaOpen
open Go.RowKit Go.ChangeShapes Go.WideShapes Go.Deep Go.Proofs.YtinkbljjpafadaaW.PrintLast Go.Proofs.YtinkbljjpafadaaW.PrintWords
structure Opens {α : Type} (P : Program) (d : Kd α) (t : TypeId) (wf : α → Prop) : Prop where
 out : ∀ {H : Type} {enc : TypeId × Value → H} {w : World} {base : Nat} {spare : Nat → Bool} {held : Bool} {fuel : Nat} {cs : List Value} {x : DataW H × List MemPlace},
  DataW.trod enc P w base spare held fuel t cs = some x → ∃ v, d.K w v cs ∧ wf v
section
variable {P : Program} {t : TypeId}
theorem zdI {k : IntKind} (ht : P.underlying t = some (.int k)) : Opens P (Kd.int k) t fun n => (Lit.int k n).wf = true := by
 refine ⟨?_⟩
 intro H enc w base spare held fuel cs x h
 obtain ⟨n, rfl, _, hw⟩ := DataW.trod_int ht h
 exact ⟨n, rfl, hw⟩
theorem zid (ht : P.underlying t = some .bool) : Opens P Kd.bool t fun _ => True := by
 refine ⟨?_⟩
 intro H enc w base spare held fuel cs x h
 obtain ⟨n, rfl, _⟩ := DataW.trod_bool ht h
 exact ⟨n, rfl, trivial⟩
theorem zb0 (ht : P.underlying t = some .string) : Opens P Kd.string t fun s => s.size ≤ maxLen := by
 refine ⟨?_⟩
 intro H enc w base spare held fuel cs x h
 obtain ⟨s, rfl, _, hs⟩ := DataW.trod_string ht h
 exact ⟨s, rfl, hs⟩
theorem zdg {α β : Type} {d : Kd α} {wf : α → Prop} (h : Opens P d t wf) {f : β → α} (g : α → β) (hg : ∀ v, f (g v) = v) : Opens P (Kd.iso d f) t fun x => wf (f x) := by
 refine ⟨?_⟩
 intro H enc w base spare held fuel cs x hh
 obtain ⟨v, hv, hw⟩ := h.out hh
 exact ⟨g v, by show d.K w (f (g v)) cs; rw [hg]; exact hv, by show wf (f (g v)); rw [hg]; exact hw⟩
structure zhH {α : Type} (P : Program) (fs : Array Field) (i off total : Nat) (d : Kd α) (wf : α → Prop) : Prop where
 out : ∀ {H : Type} {enc : TypeId × Value → H} {w : World} {base : Nat} {spare : Nat → Bool} {held : Bool} {n : Nat} {cs : List Value}, cs.length = total →
  (∀ (j : Nat) (f : Field), i ≤ j → fs[j]? = some f → ∃ y, DataW.trod enc P w base spare held n f.type ((cs.drop f.offset).take (P.cellsOf f.type)) = some y) → ∃ v, d.K w v (cs.drop off) ∧ wf v
theorem zcI {α : Type} {fs : Array Field} {i off total : Nat} {d : Kd α} {wf : α → Prop} {f : Field} (hf : fs[i]? = some f) (ho : f.offset = off) (hc : off + P.cellsOf f.type = total) (h : Opens P d f.type wf) : zhH P fs i off total d wf := by
 refine ⟨?_⟩
 intro H enc w base spare held n cs hl hall
 obtain ⟨y, hy⟩ := hall i f (Nat.le_refl _) hf
 rw [ho, List.take_of_length_le (by rw [List.length_drop]; omega)] at hy
 exact h.out hy
theorem zbI {α β : Type} {fs : Array Field} {i off total m : Nat} {d0 : Kd α} {d : Kd β} {wf0 : α → Prop} {wf : β → Prop} {f : Field} (hf : fs[i]? = some f) (ho : f.offset = off) (hc : P.cellsOf f.type = m) (h0 : Opens P d0 f.type wf0)
  (h : zhH P fs (i + 1) (off + m) total d wf) : zhH P fs i off total (Kd.pair d0 d) fun v => wf0 v.1 ∧ wf v.2 := by
 refine ⟨?_⟩
 intro H enc w base spare held n cs hl hall
 obtain ⟨y, hy⟩ := hall i f (Nat.le_refl _) hf
 obtain ⟨v0, hv0, hw0⟩ := h0.out hy
 obtain ⟨v1, hv1, hw1⟩ := h.out hl fun j f hj => hall j f o9
 refine ⟨(v0, v1), ⟨_, _, ?_, hv0, hv1⟩, hw0, hw1⟩
 rw [ho, hc, ← List.drop_drop, List.take_append_drop]
theorem zcw {α : Type} {fs : Array Field} {total : Nat} {d : Kd α} {wf : α → Prop} (ht : P.underlying t = some (.struct fs)) (hc : P.cellsOf t = total) (h : zhH P fs 0 0 total d wf) : Opens P d t wf := by
 refine ⟨?_⟩
 intro H enc w base spare held fuel cs x hh
 obtain ⟨xs, n, _, _, hl, hx, hf⟩ := DataW.trod_struct ht hh
 obtain ⟨v, hv, hw⟩ := h.out (w := w) (cs := cs) (by rw [hl, hc]) fun j f _ hj => ⟨_, (hf j f hj).trans (List.getElem?_eq_getElem (by rw [hx]; exact (Array.getElem?_eq_some_iff.1 hj).1))⟩
 exact ⟨v, by simpa using hv, hw⟩
theorem opens_slice {α : Type} {e : TypeId} {d : Kd α} {wf : α → Prop} (ht : P.underlying t = some (.slice e)) (hc : P.cellsOf e = d.sz) (h : Opens P d e wf) : Opens P (Kd.slice e d) t fun xs => xs.length ≤ maxLen ∧ ∀ x ∈ xs, wf x := by
 refine ⟨?_⟩
 intro H enc w base spare held fuel cs x hh
 rcases open_slice ht hh with ⟨rfl, _⟩ | ⟨a, len, cap, m, n, D, Pl, rfl, _, hl, hm, hmm, _, hi⟩
 ·
  exact ⟨[], ⟨none, 0, rfl, Nat.le_refl _, Kd.C_nil _ _⟩, by simp, by simp⟩
 ·
  have hlm : len ≤ m := by rw [hmm]; split <;> omega
  have hch : ∀ i, i < len → ∃ v, wf v ∧ ∃ cs', d.K w v cs' ∧ ∀ j u, cs'[j]? = some u → w.cell? (a.add (i * d.sz + j)) = some u := by
   intro i hil
   obtain ⟨cs', hc1, hc2⟩ := hi i o9
   obtain ⟨v, hv, hw⟩ := h.out hc2
   obtain ⟨_, hcl, hat⟩ := World.cells?_some hc1
   refine ⟨v, hw, cs', hv, fun j u hu => ?_⟩
   have hj : j < cs'.length := (List.getElem?_eq_some_iff.1 hu).1
   rw [← Go.Deep.add_add, ← hu, ← hc]
   exact hat j o9
  have hall : ∀ k, k ≤ len → ∃ xs : List α, xs.length = k ∧ (∀ x ∈ xs, wf x) ∧ ∀ i v, xs[i]? = some v → ∃ cs', d.K w v cs' ∧ ∀ j u, cs'[j]? = some u → w.cell? (a.add (i * d.sz + j)) = some u := by
   intro k
   induction k with
   | zero => exact fun _ => ⟨[], rfl, by simp, by simp⟩
   | succ k ih =>
    intro hk
    obtain ⟨xs, h1, h2, h3⟩ := ih o9
    obtain ⟨v, hw, hv⟩ := hch k o9
    refine ⟨xs ++ [v], by simp [h1], fun x hx => ?_, fun i u hu => ?_⟩
    ·
     rcases List.mem_append.1 hx with hx | hx
     ·
      exact h2 x hx
     ·
      rw [List.mem_singleton.1 hx]; exact hw
    ·
     rcases Nat.lt_or_ge i xs.length with hi' | hi'
     ·
      rw [List.getElem?_append_left hi'] at hu; exact h3 i u hu
     ·
      rw [List.getElem?_append_right hi'] at hu
      have : i - xs.length = 0 := by
       refine Classical.byContradiction fun hne => ?_
       rw [List.getElem?_eq_none (by simp; omega)] at hu; cases hu
      rw [this] at hu
      obtain rfl : v = u := by simpa using hu
      rw [show i = k by omega]; exact hv
  obtain ⟨xs, h1, h2, h3⟩ := hall len (Nat.le_refl _)
  have hmax : maxLen = 9223372036854775807 := rfl
  refine ⟨xs, ⟨some a, cap, by rw [h1], by omega, ?_⟩, by omega, h2⟩
  rw [h1]
  refine ⟨h1, by omega, fun _ => ⟨a, rfl, fun j p hj => ?_⟩⟩
  obtain ⟨cs', hk, hc'⟩ := h3 j p hj
  exact ⟨cs', d.K_len hk, hk, hc'⟩
theorem opened_slice {α : Type} {e : TypeId} {d : Kd α} {wf : α → Prop} (h : Opens P (Kd.slice e d) t fun xs => xs.length ≤ maxLen ∧ ∀ x ∈ xs, wf x) {H : Type} {enc : TypeId × Value → H} {w : World} {base : Nat} {spare : Nat → Bool} {held : Bool} {a : Option Addr} {len cap : Nat} {y : DataW H} {ps : List MemPlace}
  (hh : DataW.Trod enc P w base spare held t (.slice a len cap) y ps) : ∃ xs : List α, len = xs.length ∧ Kd.C d w a xs.length xs ∧ xs.length ≤ cap ∧ xs.length ≤ maxLen ∧ ∀ x ∈ xs, wf x := by
 obtain ⟨fuel, hf⟩ := hh
 obtain ⟨xs, ⟨A, c, he, hl, hC⟩, hw1, hw2⟩ := h.out hf
 have he' : [Value.slice a len cap] = [Value.slice A xs.length c] := by simpa [Value.cells] using he
 injection he' with he1 _
 injection he1 with e1 e2 e3
 subst e1 e3
 exact ⟨xs, e2, hC, hl, hw1, hw2⟩
theorem opened_struct {α : Type} {d : Kd α} {wf : α → Prop} (h : Opens P d t wf) {H : Type} {enc : TypeId × Value → H} {w : World} {base : Nat} {spare : Nat → Bool} {held : Bool} {cs : Array Value} {y : DataW H} {ps : List MemPlace}
  (hh : DataW.Trod enc P w base spare held t (.agg cs) y ps) : ∃ v, d.K w v cs.toList ∧ wf v := by
 obtain ⟨fuel, hf⟩ := hh
 exact h.out (by simpa [Value.cells] using hf)
end
end Go.Proofs.YtinkbljjpafadaaOpen
end

section
namespace Go.Proofs.Ytinkbljjpafadaa.PAll
open Go.RowKit Go.Proofs.YtinkbljjpafadaaW.PrintWords Go.Proofs.YtinkbljjpafadaaW.PrintLast Go.Proofs.YtinkbljjpafadaaOpen
def wf58 (x : S58) : Prop := x.f0.size ≤ maxLen ∧ x.f1.size ≤ maxLen
theorem zjI : Opens Try.prog k58 58 wf58 := zdg (f := fun x : S58 => (x.f0, x.f1)) (zcw (total := 2) Try.underlying58 k9 (zbI (m := 1) rfl rfl k9 (zb0 Try.underlying9) (zcI rfl rfl k9 (zb0 Try.underlying9)))) (fun v => (⟨v.1, v.2⟩ : S58)) (fun _ => rfl)
def wf61 (x : S61) : Prop := x.f0.size ≤ maxLen ∧ (x.f1.length ≤ maxLen ∧ ∀ yxf1 ∈ x.f1, wf58 yxf1) ∧ x.f2.size ≤ maxLen
theorem zle : Opens Try.prog k61 61 wf61 := zdg (f := fun x : S61 => (x.f0, x.f1, x.f2)) (zcw (total := 3) Try.underlying61 k9 (zbI (m := 1) rfl rfl k9 (zb0 Try.underlying9) (zbI (m := 1) rfl rfl k9 (opens_slice Try.underlying59 k9 zjI) (zcI rfl rfl k9 (zb0 Try.underlying9))))) (fun v => (⟨v.1, v.2.1, v.2.2⟩ : S61)) (fun _ => rfl)
def wf64 (x : S64) : Prop := x.f0.size ≤ maxLen ∧ x.f1.size ≤ maxLen ∧ (x.f2.length ≤ maxLen ∧ ∀ yxf2 ∈ x.f2, wf58 yxf2) ∧ (x.f3.length ≤ maxLen ∧ ∀ yxf3 ∈ x.f3, wf61 yxf3)
theorem opens64 : Opens Try.prog k64 64 wf64 := zdg (f := fun x : S64 => (x.f0, x.f1, x.f2, x.f3)) (zcw (total := 4) Try.underlying64 k9 (zbI (m := 1) rfl rfl k9 (zb0 Try.underlying9) (zbI (m := 1) rfl rfl k9 (zb0 Try.underlying9) (zbI (m := 1) rfl rfl k9 (opens_slice Try.underlying59 k9 zjI) (zcI rfl rfl k9 (opens_slice Try.underlying62 k9 zle)))))) (fun v => (⟨v.1, v.2.1, v.2.2.1, v.2.2.2⟩ : S64)) (fun _ => rfl)
def wf35 (x : S35) : Prop := True ∧ x.f1.size ≤ maxLen ∧ (Lit.int .i64 x.f2).wf = true
theorem zkP : Opens Try.prog k35 35 wf35 := zdg (f := fun x : S35 => (x.f0, x.f1, x.f2)) (zcw (total := 3) Try.underlying35 k9 (zbI (m := 1) rfl rfl k9 (zid Try.underlying4) (zbI (m := 1) rfl rfl k9 (zb0 Try.underlying9) (zcI rfl rfl k9 (zdI Try.underlying3))))) (fun v => (⟨v.1, v.2.1, v.2.2⟩ : S35)) (fun _ => rfl)
def wf27 (x : S27) : Prop := (Lit.int .i64 x.f0).wf = true ∧ (Lit.int .i64 x.f1).wf = true ∧ (Lit.int .u64 x.f2).wf = true ∧ x.f3.size ≤ maxLen ∧ (x.f4.length ≤ maxLen ∧ ∀ yxf4 ∈ x.f4, wf35 yxf4)
theorem opens27 : Opens Try.prog k27 27 wf27 := zdg (f := fun x : S27 => (x.f0, x.f1, x.f2, x.f3, x.f4)) (zcw (total := 5) Try.underlying27 k9 (zbI (m := 1) rfl rfl k9 (zdI Try.underlying3) (zbI (m := 1) rfl rfl k9 (zdI Try.underlying3) (zbI (m := 1) rfl rfl k9 (zdI Try.underlying24) (zbI (m := 1) rfl rfl k9 (zb0 Try.underlying9) (zcI rfl rfl k9 (opens_slice Try.underlying25 k9 zkP))))))) (fun v => (⟨v.1, v.2.1, v.2.2.1, v.2.2.2.1, v.2.2.2.2⟩ : S27)) (fun _ => rfl)
end Go.Proofs.Ytinkbljjpafadaa.PAll
end

section
namespace Go.Proofs.YtinkbljjpafadaaW.PrintWords
open Go.RowKit
theorem rk {p q : Prop} (h : p) (f : p → q := by intro h; (with_reducible repeat (first | apply Kd.zbt | apply Kd.zbA | apply Kd.zbN)); exact h) : q := f h
theorem bk {p q : Prop} (h : p) (f : p → q := by intro h; (with_reducible repeat (first | refine zbg ?_ _ | refine zbh ?_ | refine zbf ?_ _)); exact h) : q := f h
theorem bl {p q : Prop} (h : p) (f : p → q := by intro h; repeat (first | (with_reducible first | exact h | apply zbQ | apply zbm | apply zb8 | (refine zaR ?_ (zaa.out (by assumption)))) | exact h)) : q := f h
theorem gw {w W : World} {g : Nat} (e : g = W.heap.size) (h : Below w.heap.size w W) : w.heap.size ≤ g := e ▸ zaO h
theorem nl {W : World} {g g' : Nat} {o : Obj} {p : Prop} (e : g' = W.heap.size) (h : p) (f : p → W.heap[g]? = some o := by intro h; first | ((with_reducible repeat (first | refine zbg ?_ _ | refine zbh ?_ | refine zbf ?_ _)); exact h) | ((with_reducible repeat (first | refine zbg ?_ _ | refine zbh ?_ | refine zbf ?_ _)); (try (first | apply zaf | apply zby)); (with_reducible repeat (first | refine zbg ?_ _ | refine zbh ?_ | refine zbf ?_ _)); (try (first | apply zaf | apply zby)); (with_reducible repeat (first | refine zbg ?_ _ | refine zbh ?_ | refine zbf ?_ _)); (try (first | apply zaf | apply zby)); (with_reducible repeat (first | refine zbg ?_ _ | refine zbh ?_ | refine zbf ?_ _)); (try (first | apply zaf | apply zby)); (with_reducible repeat (first | refine zbg ?_ _ | refine zbh ?_ | refine zbf ?_ _)); (try (first | apply zaf | apply zby)); (with_reducible repeat (first | refine zbg ?_ _ | refine zbh ?_ | refine zbf ?_ _)); (try (first | apply zaf | apply zby)); (with_reducible repeat (first | refine zbg ?_ _ | refine zbh ?_ | refine zbf ?_ _)); (try (first | apply zaf | apply zby)); (with_reducible repeat (first | refine zbg ?_ _ | refine zbh ?_ | refine zbf ?_ _)); (try (first | apply zaf | apply zby)); (with_reducible repeat (first | refine zbg ?_ _ | refine zbh ?_ | refine zbf ?_ _)); (with_reducible exact h); all_goals (first | rfl | exact zaa.out (by assumption)))) : g ≠ g' := e ▸ Nat.ne_of_lt (zeN (f h))
theorem ng {W : World} {g g' : Nat} {o : Obj} {p : Prop} (e : g' = W.heap.size) (h : p) (f : p → W.heap[g]? = some o := by intro h; first | ((with_reducible repeat (first | refine zbg ?_ _ | refine zbh ?_ | refine zbf ?_ _)); exact h) | ((with_reducible repeat (first | refine zbg ?_ _ | refine zbh ?_ | refine zbf ?_ _)); (try (first | apply zaf | apply zby)); (with_reducible repeat (first | refine zbg ?_ _ | refine zbh ?_ | refine zbf ?_ _)); (try (first | apply zaf | apply zby)); (with_reducible repeat (first | refine zbg ?_ _ | refine zbh ?_ | refine zbf ?_ _)); (try (first | apply zaf | apply zby)); (with_reducible repeat (first | refine zbg ?_ _ | refine zbh ?_ | refine zbf ?_ _)); (try (first | apply zaf | apply zby)); (with_reducible repeat (first | refine zbg ?_ _ | refine zbh ?_ | refine zbf ?_ _)); (try (first | apply zaf | apply zby)); (with_reducible repeat (first | refine zbg ?_ _ | refine zbh ?_ | refine zbf ?_ _)); (try (first | apply zaf | apply zby)); (with_reducible repeat (first | refine zbg ?_ _ | refine zbh ?_ | refine zbf ?_ _)); (try (first | apply zaf | apply zby)); (with_reducible repeat (first | refine zbg ?_ _ | refine zbh ?_ | refine zbf ?_ _)); (try (first | apply zaf | apply zby)); (with_reducible repeat (first | refine zbg ?_ _ | refine zbh ?_ | refine zbf ?_ _)); (with_reducible exact h); all_goals (first | rfl | exact zaa.out (by assumption)))) : g' ≠ g := e ▸ Nat.ne_of_gt (zeN (f h))
theorem bp {p q : Prop} (h : p) (f : p → q := by intro h; (with_reducible repeat (first | refine zbg ?_ _ | refine zbh ?_ | refine zbf ?_ _)); (try (first | apply zaf | apply zby)); (with_reducible repeat (first | refine zbg ?_ _ | refine zbh ?_ | refine zbf ?_ _)); (try (first | apply zaf | apply zby)); (with_reducible repeat (first | refine zbg ?_ _ | refine zbh ?_ | refine zbf ?_ _)); (try (first | apply zaf | apply zby)); (with_reducible repeat (first | refine zbg ?_ _ | refine zbh ?_ | refine zbf ?_ _)); (try (first | apply zaf | apply zby)); (with_reducible repeat (first | refine zbg ?_ _ | refine zbh ?_ | refine zbf ?_ _)); (try (first | apply zaf | apply zby)); (with_reducible repeat (first | refine zbg ?_ _ | refine zbh ?_ | refine zbf ?_ _)); (try (first | apply zaf | apply zby)); (with_reducible repeat (first | refine zbg ?_ _ | refine zbh ?_ | refine zbf ?_ _)); (try (first | apply zaf | apply zby)); (with_reducible repeat (first | refine zbg ?_ _ | refine zbh ?_ | refine zbf ?_ _)); (try (first | apply zaf | apply zby)); (with_reducible repeat (first | refine zbg ?_ _ | refine zbh ?_ | refine zbf ?_ _)); (with_reducible exact h); all_goals (first | rfl | exact zaa.out (by assumption))) : q := f h
section
variable {P : Program} {ops : Array Oper} {rest : List Oper} {o : Oper} {a : Act} {Q : Exit → Act → World → Prop}
theorem zbq {W : World} {N : Tmp} {cs : Array Value} {t : TypeId}
  (h : ∀ g, g = W.heap.size → ∀ w1, w1.heap[g]? = some (.cells cs t (0, 0)) → Below W.heap.size W w1 → wpList P ops Q rest (a.put o.dst (.pointer (some ⟨g, 0, none⟩))) w1)
  (hd : o.dst = some N := by rfl) (hg : o.guard = none := by rfl) (hr : (execOp a.eval o).run P W = .ok (.value (.pointer (some ⟨W.heap.size, 0, none⟩))) (W.alloc (.cells cs t (0, 0))) := by first | (go_simp; done) | (go_simp; rfl)) : wpList P ops Q (o :: rest) a W := zi4 hg hd hr h
end
end Go.Proofs.YtinkbljjpafadaaW.PrintWords
end

section
namespace Go.Proofs.YtinkbljjpafadaaRG
open Go.RowKit Go.Proofs.YtinkbljjpafadaaW.PrintLast Go.Proofs.YtinkbljjpafadaaW.PrintWords Go.Proofs.YtinkbljjpafadaaRF
theorem ga : (∀ {α : Type} (l : List α) (i : Nat), l.toArray[i]? = l[i]?) ∧ (∀ {α : Type} (a : α) (l : List α), (a :: l)[0]? = some a) ∧ (∀ {α : Type} (a : α) (l : List α) (i : Nat), (a :: l)[i + 1]? = l[i]?) := ⟨fun _ _ => by simp, fun _ _ => rfl, fun _ _ _ => rfl⟩
theorem pa : (∀ (a : Act) (d : Tmp) (v : Value), a.put (some d) v = { a with tmps := a.tmps.setIfInBounds d v }) ∧ (∀ (a : Act) (v : Value), a.put none v = a) ∧ (∀ (l : List Value) (i : Nat) (v : Value), l.toArray.setIfInBounds i v = (l.set i v).toArray) ∧ (∀ (x : Value) (l : List Value) (i : Nat) (v : Value), (x :: l).set (i + 1) v = x :: l.set i v) ∧ (∀ (x : Value) (l : List Value) (v : Value), (x :: l).set 0 v = v :: l) := ⟨fun _ _ _ => rfl, fun _ _ => rfl, fun _ _ _ => by simp, fun _ _ _ _ => rfl, fun _ _ _ => rfl⟩
theorem ps : (∀ (ops : Array Oper) (vs : Nat → Value) (a : Act), putL ops vs [] a = a) ∧ (∀ (ops : Array Oper) (vs : Nat → Value) (j : Nat) (r : List Nat) (a : Act), putL ops vs (j :: r) a = putL ops vs r (a.put (zaU ops j) (vs j))) ∧ (∀ (ops : Array Oper) (j : Nat), zaU ops j = (ops[j]?).bind (·.dst)) ∧ (∀ {α β : Type} (x : α) (f : α → Option β), (some x).bind f = f x) := ⟨fun _ _ _ => rfl, fun _ _ _ _ _ => rfl, fun _ _ => rfl, fun _ _ => rfl⟩
section
variable {P : Program} {ops : Array Oper} {Q : Exit → Act → World → Prop} {a0 : Act} {w0 : World} {m : Nat} {late : List Nat} {E : Env} {i : Nat} {r : List Nat} {o : Oper}
theorem rgt {id N : Nat} {a : Act} {w : World} (m : Nat) (h : RG P ops Q Grows a w m [] (List.range m)) (hok : rgOkT ops m N = true := by kernel_rfl) (hN : a.tmps.size = N := by rfl) : (Code.region id ops false).wp P Q a w := zkO m Grows hok hN Grows.refl Grows.trans h
theorem Seen.g {a : Act} {w : World} (h : Seen ops a0 m E i a w) (k : Nat) (hk : Nat.ble (k + 1) E.length = true := by rfl) (hn : (needs ops i).contains (E[k]'(Nat.le_of_ble_eq_true hk)).1 = true := by kernel_rfl) (ht : (zaU ops (E[k]'(Nat.le_of_ble_eq_true hk)).1).isSome = true := by kernel_rfl) : (E[k]'(Nat.le_of_ble_eq_true hk)).2 (a.tmps[(zaU ops (E[k]'(Nat.le_of_ble_eq_true hk)).1).getD 0]?.getD undef) w :=
 h.get k (List.getElem?_eq_getElem (Nat.le_of_ble_eq_true hk)) hn (by obtain ⟨t, e⟩ := Option.isSome_iff_exists.1 ht; rw [e]; rfl)
theorem Seen.rd {α : Type} {d : Kd α} {e : Nat} {L : List α} {F : Value → Value} {a : Act} {w : World} (h : Seen ops a0 m E i a w) (k : Nat) {j : Nat} (hk : E[k]? = some (j, OneR d e L F)) {t : Tmp} (ht : zaU ops j = some t) (hn : (needs ops i).contains j = true := by kernel_rfl) :
  ∃ A c, a.tmps[t]?.getD undef = F (.slice A L.length c) ∧ L.length ≤ c ∧ d.C w A L.length L ∧ d.R e w 0 (fun _ => True) (.slice A L.length c) L := OneR.reads (h.get k hk hn ht)
theorem rgv (v : Value) (hr : ∀ a w, Grows w0 w → Seen ops a0 m E i a w → (execOp a.eval o).run P w = .ok (.value v) w) (h : RG P ops Q Grows a0 w0 m ((i, fun x _ => x = v) :: E) r) (hi : ops[i]? = some o := by rfl) (hg : o.guard = none := by rfl) : RG P ops Q Grows a0 w0 m E (i :: r) :=
 zaF v Grows.refl hi (fun _ _ _ _ => zae hg) hr h
theorem rglv (v : Value) (hr : ∀ a w, Grows w0 w → Seen ops a0 m E i a w → (execOp a.eval o).run P w = .ok (.value v) w) (h : RGL P ops Q Grows a0 w0 m late ((i, fun x _ => x = v) :: E) r) (hi : ops[i]? = some o := by rfl) (hg : o.guard = none := by rfl) (hl : i ∉ late := by decide) : RGL P ops Q Grows a0 w0 m late E (i :: r) :=
 zll v Grows.refl hi (fun _ _ _ _ => zae hg) hr h hl
theorem rgk (φ : Value → World → Prop) (hr : ∀ a w, Grows w0 w → Seen ops a0 m E i a w → ∃ v, (execOp a.eval o).run P w = .ok (.value v) w ∧ φ v w) (h : RG P ops Q Grows a0 w0 m ((i, φ) :: E) r) (hs : ∀ v w w', Grows w w' → φ v w → φ v w' := by first | exact OneR.grows | exact fun _ _ _ _ h => h) (hi : ops[i]? = some o := by rfl) (hg : o.guard = none := by rfl) : RG P ops Q Grows a0 w0 m E (i :: r) :=
 zk2 φ hs Grows.refl hi (fun _ _ _ _ => zae hg) hr h
theorem rgc {f : FuncId} {fn : Func} {xs : Array Operand} {ts : Array TypeId} (φ : Value → World → Prop) (hf : P.funcs[f]? = some fn)
  (hr : ∀ a w, Grows w0 w → Seen ops a0 m E i a w → Calls P f (xs.map a.eval) w fun e w' => ∃ v, e = .returned v ∧ Grows w w' ∧ φ v w') (h : RG P ops Q Grows a0 w0 m ((i, φ) :: E) r) (hs : ∀ v w w', Grows w w' → φ v w → φ v w' := by first | exact OneR.grows | exact fun _ _ _ _ h => h) (hi : ops[i]? = some o := by rfl)
  (hop : o.op = .call { callee := .value (.func f), args := xs, argTypes := ts } := by rfl) (hname : (fn.name == "runtime.NumGoroutine") = false := by kernel_rfl) (hb : fn.body.isSome = true := by rfl) (hg : o.guard = none := by rfl) : RG P ops Q Grows a0 w0 m E (i :: r) :=
 zbc φ hs hi hop hf hname hb (fun _ _ _ _ => zae hg) hr h
end
theorem cb {α : Type} {d : Kd α} {w w1 : World} {A : Option Addr} {n : Nat} {xs : List α} (h : zaa (d.C w A n xs)) (hb : Below w.heap.size w w1) : zaa (d.C w1 A n xs) := ⟨Kd.zat h.out hb⟩
theorem rb {α : Type} {d : Kd α} {e : Nat} {w w1 : World} {base : Nat} {ok : Nat → Prop} {v : Value} {xs : List α} (h : zaa (d.R e w base ok v xs)) (hb : Below w.heap.size w w1) : zaa (d.R e w1 base ok v xs) := ⟨Kd.zbC h.out hb⟩
theorem ab {A B : World} {k : Nat} {o : Obj} (hk : zaa (A.heap[k]? = some o)) (h : Grows A B) : zaa (B.heap[k]? = some o) := ⟨h.at hk.out⟩
theorem hbm {w A B : World} (h : zaa (Below w.heap.size w A)) (g : Grows A B) : zaa (Below w.heap.size w B) := ⟨h.out.trans (Below.mono g h.out.size)⟩
def vA (a b c : Int) (s : ByteArray) (u : Value) : Value := .agg #[.int .i64 a, .int .i64 b, .int .u64 c, .string s, u]
def vT (a b c : Int) (s : ByteArray) (l : Int) (u : Value) : Value := .tuple #[.agg #[.int .i64 a, .int .i64 b, .int .u64 c, .string s, u], .int .i64 l]
end Go.Proofs.YtinkbljjpafadaaRG
end
