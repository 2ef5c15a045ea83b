/- Laws over any program, shared: append in a fence; a loop over a function that collects. -/
import Derived.Test.YtimflmgdnfpodaaRG
namespace Go.Proofs.YtimflmgdnfpodaaRF
open Go.RowKit Go.Proofs.YtimflmgdnfpodaaW.PrintWords Go.Proofs.YtimflmgdnfpodaaW.PrintLast Go.Proofs.YtimflmgdnfpodaaRG
set_option linter.unusedSimpArgs false
set_option linter.unusedVariables false
/-! ### append of one thing, in a fence -/
section
variable {F : Fence} {n : Nat} {P : Program} {ops : Array Oper} {rest : List Oper} {o : Oper} {a : Act} {Q : Exit → Act → World → Prop} {α : Type}
theorem rf_append1 (enc : α → Value) {h1c : ∀ x, (enc x).oneCell' = true} (W : World) (hgd : o.guard = none) (s x : Operand) (t e : TypeId) (z : Value) (bytes : Nat)
    (ho : o.op = .call { callee := .builtin .append, args := #[s, x], argTypes := #[t, t] })
    (ht : P.underlying t = some (.slice e)) (hinfo : (P.info? e).map (fun i => (i.zero, i.size, i.bytes)) = some (some z, 1, bytes)) (hz : z.cells.size = 1) (hb0 : 0 < bytes)
    (base : Nat) (ok : Nat → Prop) (v : Value) (xs : List α) (p : α) (g c : Nat) (hs : a.eval s = v) (hx : a.eval x = .slice (some ⟨g, 0, none⟩) 1 c) (hg : W.cell? ⟨g, 0, none⟩ = some (enc p))
    (HO : (Kd.scalar enc h1c).R e W base ok v xs) (hbase : base ≤ W.heap.size) (hl : (xs.length + 1) * bytes ≤ 140737488355328)
    (h : ∀ v1 w1, (Kd.scalar enc h1c).R e w1 base (fun k => ok k ∨ W.heap.size ≤ k) v1 (xs ++ [p]) → W.grownBy w1 v.ownBlock → wpListIn F n P ops Q rest (a.put o.dst v1) w1) :
    wpListIn F n P ops Q (o :: rest) a W := by
  obtain ⟨i0, hi, hzz⟩ := Option.map_eq_some_iff.1 hinfo
  simp only [Prod.mk.injEq] at hzz
  obtain ⟨hz0, hz1, hz2⟩ := hzz
  have hlen : xs.length + 1 ≤ 140737488355328 := Nat.le_trans (Nat.le_mul_of_pos_right _ hb0) hl
  have hown := Kd.own_of_R HO
  obtain ⟨v1, w1, hrun, r1, r2, _, hat⟩ := run_append_own_at (P := P) W base t o.type e i0 z 1 bytes ht hi hz0 hz1 hz2 hz (by omega) v xs.length (encs enc xs) hown ⟨g, 0, none⟩ 1 c [enc p] rfl
    (fun j u hj => by
      cases j with
      | zero => simp only [List.getElem?_cons_zero, Option.some.injEq] at hj; subst hj; exact hg
      | succ j => simp at hj)
    (fun u hu => by rw [List.mem_singleton.1 hu]; exact h1c p) (by simp only [maxLen]; omega) hl hbase
  refine wpListIn_plain hgd fun K hK' => ?_
  unfold Oper.wpIn
  refine ⟨?_, ?_⟩
  · simp [Oper.about, ho, resolve, Target.leads, Sem.run_pure]
  · rw [Oper.semAt_plain F _ _ (by rw [ho]; intro c hc'; cases hc')]
    simp [execOp, ho, resolve, invoke, builtin, hs, hx, hrun, Result.andThen]
    refine hK' _ _ (h v1 w1 (Kd.R_of_own ?_ (fun k hk => ?_)) r2)
    · rw [List.length_append]
      have he : encs enc (xs ++ [p]) = encs enc xs ++ [enc p] := by simp [encs]
      rw [he]; exact r1
    · rcases hat with e1 | e1
      · exact .inl (HO.1 k (by rw [← e1]; exact hk))
      · rw [e1] at hk
        injection hk with hk
        right; omega
end

/-- What the loop that collects keeps. -/
structure OutI {α : Type} (enc : α → Value) (h1 : ∀ x, (enc x).oneCell' = true) (T e n₀ : Nat) (w0 : World) (Bo : Nat) (pre : List α) (O : Nat → Prop) (W : World) : Prop where
  box : ∃ v, Mine Bo (.cells #[v] T (0, 0)) O W ∧ (Kd.scalar enc h1).R e W n₀ (fun k => ¬ O k) v pre
  bl : Below n₀ w0 W
  lo : ∀ k, O k → n₀ ≤ k
theorem OutI.stable {α : Type} (enc : α → Value) (h1 : ∀ x, (enc x).oneCell' = true) (T e n₀ : Nat) (w0 : World) (hn : n₀ ≤ w0.heap.size) (Bo : Nat) : Stable (OutI enc h1 T e n₀ w0 Bo) := fun s O O' W W' h hm h1' h2 => by
  obtain ⟨v, hb, hr⟩ := h.box
  have hst : Mine Bo (.cells #[v] T (0, 0)) O' W' := Mine.stable (β := Unit) (fun _ => _) (fun _ => _) () O O' W W' hb hm h1' h2
  refine ⟨⟨v, hst, ?_⟩, h.bl.trans (hm.below (Nat.le_trans hn h.bl.size) h.lo), fun k hk => (h2 k hk).elim (h.lo k) (fun x => by have := h.bl.size; omega)⟩
  refine Kd.R_mono (Kd.R_bound (Kd.R_step (ok := fun k => ¬ O k ∧ k < W.heap.size) (Kd.R_mono (Kd.R_bound hr) (fun k hk => ⟨hk.1, hk.2.2.1⟩)) (fun k hk hl => hm.block k hl hk.1))) (fun k hk => ?_)
  exact fun e => (h2 k e).elim hk.1.1 (fun x => by have := hk.1.2; omega)

/-- One thing is put behind: what is kept stays. -/
theorem OutI.put {α : Type} {enc : α → Value} {h1 : ∀ x, (enc x).oneCell' = true} {T e n₀ : Nat} {w0 : World} {Bo : Nat} {pre : List α} {x : α} {O : Nat → Prop} {W W4 w1 : World} {v v1 : Value} (hTe : e ≠ T) (hn : n₀ ≤ w0.heap.size) (hB : n₀ ≤ Bo)
    (hl : ∀ k, O k → k < W.heap.size) (hm : Mine Bo (.cells #[v] T (0, 0)) O W) (hr : (Kd.scalar enc h1).R e W n₀ (fun k => ¬ O k) v pre) (hb : Below n₀ w0 W) (hlo : ∀ k, O k → n₀ ≤ k)
    (hmv : Mv (fun _ => False) W W4) (hr1 : (Kd.scalar enc h1).R e w1 n₀ (fun k => ¬ O k ∨ W4.heap.size ≤ k) v1 (pre ++ [x])) (hg : W4.grownBy w1 v.ownBlock) :
    Mv (fun k => ¬ (O k ∨ k < n₀)) W (w1.setCell ⟨Bo, 0, none⟩ v1) ∧ OutI enc h1 T e n₀ w0 Bo (pre ++ [x]) O (w1.setCell ⟨Bo, 0, none⟩ v1) := by
  have hrow : ∀ k, v.ownBlock = some k → ¬ O k ∧ n₀ ≤ k := fun k hk => by
    have := (Kd.R_bound hr).1 k hk
    exact ⟨this.1, this.2.1⟩
  have hmv1 : Mv (fun k => ¬ (O k ∨ k < n₀)) W W4 := hmv.mono (fun _ _ h => h.elim)
  have hmv2 := hmv1.grown hg (fun k e => .inl (fun h => h.elim (hrow k e).1 (fun h => by have := (hrow k e).2; omega)))
  have hBo4 := hmv.at hm.1 (fun h => h)
  have hne : some Bo ≠ v.ownBlock := Kd.R_ne hr hm.1 hTe
  have hBo1 : w1.heap[Bo]? = some (.cells #[v] T (0, 0)) := (hg.block Bo (lt_of_at hBo4) hne).trans hBo4
  have hmv3 := hmv2.setCell (p := ⟨Bo, 0, none⟩) (.inl (fun h => h.elim hm.2 (fun h => by simp at h; omega))) v1
  refine ⟨hmv3, ⟨v1, ⟨by simpa using set_at hBo1 0 v1, hm.2⟩, ?_⟩, hb.trans (hmv3.below (Nat.le_trans hn hb.size) (fun k h => Nat.not_lt.1 (fun h' => h (.inr h')))), hlo⟩
  refine Kd.R_set (Kd.R_mono hr1 (fun k hk => ?_)) hBo1 (fun q hq => ?_) 0 v1
  · rcases hk with hk | hk
    · exact hk
    · exact fun h => by have := hl k h; have := hmv.size; omega
  · simp [Kd.scalar] at hq
    rw [hq]; exact hTe
theorem results_cell1 {P : Program} {fn : Func} {p : Tmp} {ty : TypeId} (h : fn.results = #[.cell p ty]) (tmps : Array Value) (w : World) (g : Nat) (t : TypeId) (v : Value) (e : TypeId)
    (hp : tmps.getD p undef = .pointer (some ⟨g, 0, none⟩)) (hg : w.heap[g]? = some (.cells #[v] t (0, 0))) (hu : P.underlying ty = some (.slice e)) : (results fn tmps).run P w = .ok v w := by
  have hp' : tmps[p]?.getD undef = .pointer (some ⟨g, 0, none⟩) := by simpa using hp
  have hc := cell_at hg 0
  simp only [List.getElem?_toArray, List.getElem?_cons_zero] at hc
  have ha : (isAgg ty).run P w = .ok false w := by simp [isAgg, go_sem, run_underlying hu]
  simp [results, h, hp', asAddr, go_sem, hu, hc, ha]
theorem results_c1 {P : Program} {fn : Func} {p1 : Tmp} {ty1 : TypeId} (h : fn.results = #[.cell p1 ty1]) (tmps : Array Value) (w : World) (a1 : Addr) (v1 : Value)
    (h1 : tmps.getD p1 undef = .pointer (some a1)) (l1 : (loadVar ty1 a1).run P w = .ok v1 w) : (results fn tmps).run P w = .ok v1 w := by
  have h1' : tmps[p1]?.getD undef = .pointer (some a1) := by simpa using h1
  simp [results, h, h1', asAddr, l1]
theorem results_c2 {P : Program} {fn : Func} {p1 p2 : Tmp} {ty1 ty2 : TypeId} (h : fn.results = #[.cell p1 ty1, .cell p2 ty2]) (tmps : Array Value) (w : World) (a1 a2 : Addr) (v1 v2 : Value)
    (h1 : tmps.getD p1 undef = .pointer (some a1)) (h2 : tmps.getD p2 undef = .pointer (some a2)) (l1 : (loadVar ty1 a1).run P w = .ok v1 w) (l2 : (loadVar ty2 a2).run P w = .ok v2 w) : (results fn tmps).run P w = .ok (.tuple #[v1, v2]) w := by
  have h1' : tmps[p1]?.getD undef = .pointer (some a1) := by simpa using h1
  have h2' : tmps[p2]?.getD undef = .pointer (some a2) := by simpa using h2
  simp [results, h, h1', h2', asAddr, l1, l2]
theorem load_one {P : Program} {ty : TypeId} {w : World} {g : Nat} {t : TypeId} {v : Value} (ha : (isAgg ty).run P w = .ok false w) (hg : w.heap[g]? = some (.cells #[v] t (0, 0))) : (loadVar ty ⟨g, 0, none⟩).run P w = .ok v w := by
  have hc := cell_at hg 0
  simp only [List.getElem?_toArray, List.getElem?_cons_zero] at hc
  simp [loadVar, go_sem, hc, ha]
/-! ### Many ranges over functions, one behind the other: their blocks for deferred calls -/
def coll (ds : List Nat) : List Deferred := ds.map fun D => { target := .collected D, args := #[] }
/-- The worlds' blocks of ds hold no deferred call. -/
def Idle (ds : List Nat) (w : World) : Prop := ds.Nodup ∧ ∀ D ∈ ds, w.heap[D]? = some (.deferred (some []))
theorem Idle.nil (w : World) : Idle [] w := ⟨List.nodup_nil, fun _ h => by cases h⟩
theorem Idle.move {ds : List Nat} {w w' : World} {O : Nat → Prop} (h : Idle ds w) (hm : Mv O w w') (ho : ∀ D ∈ ds, ¬ O D) : Idle ds w' := ⟨h.1, fun D hD => hm.at (h.2 D hD) (ho D hD)⟩
theorem Idle.cons {ds : List Nat} {w : World} (h : Idle ds w) (D : Nat) (hD : w.heap[D]? = some (.deferred (some []))) (hn : D ∉ ds) : Idle (D :: ds) w :=
  ⟨List.nodup_cons.2 ⟨hn, h.1⟩, fun E hE => by rcases List.mem_cons.1 hE with rfl | hE; exact hD; exact h.2 E hE⟩
/-- Taken one by one. -/
def takeAll : List Nat → World → World
  | [], w => w
  | D :: ds, w => takeAll ds (w.putObj D (.deferred none))
theorem takeAll_mv {ds : List Nat} {O : Nat → Prop} : ∀ {w : World}, (∀ D ∈ ds, O D) → Mv O w (takeAll ds w) := by
  induction ds with
  | nil => exact fun _ => Mv.refl _ _
  | cons D ds ih => exact fun {w} h => ((Mv.refl O w).putObj (.inl (h D List.mem_cons_self)) (.deferred none)).trans (ih (fun E hE => h E (List.mem_cons_of_mem _ hE)))
theorem leaves_all {F : Fence} {n : Nat} {P : Program} {fn : Func} {tmps : Array Value} {R : Ending → World → Prop} : ∀ (ds : List Nat) (w : World), Idle ds w → LeavesInM F n P fn tmps R [] .returning (takeAll ds w) → LeavesInM F n P fn tmps R (coll ds) .returning w
  | [], w, _, h => h
  | D :: ds, w, hi, h => by
    refine ⟨by simp, .inl ⟨D, _, rfl, run_takeDeferred (hi.2 D List.mem_cons_self), leaves_all ds _ ?_ h⟩⟩
    have hn := List.nodup_cons.1 hi.1
    exact ⟨hn.2, fun E hE => (World.putObj_heap_other (fun e : E = D => hn.1 (e ▸ hE))).trans (hi.2 E (List.mem_cons_of_mem _ hE))⟩
end Go.Proofs.YtimflmgdnfpodaaRF
