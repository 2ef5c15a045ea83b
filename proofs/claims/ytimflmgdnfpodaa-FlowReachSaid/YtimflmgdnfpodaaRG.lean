/- A region that draws its order, told operation by operation in the text's order: 'rg_any', 'rg_region'. Over any program; this session's own. -/
import Derived.Test.YtimflmgdnfpodaaRF
namespace Go.Proofs.YtimflmgdnfpodaaRG
open Go.RowKit Go.Proofs.YtimflmgdnfpodaaW.PrintLast Go.Proofs.YtimflmgdnfpodaaW.PrintWords Go.Proofs.YtimflmgdnfpodaaRF

section
variable (P : Program) (ops : Array Oper) (Q : Exit → Act → World → Prop) (ρ : World → World → Prop) (a0 : Act) (w0 : World) (m : Nat)

def needs (i : Nat) : List Nat := match ops[i]? with | some o => (o.after.toList.filter (Region.binds .any)).map (·.on) | none => []
def slotOf (j : Nat) : Option Tmp := (ops[j]?).bind (·.dst)
def nodupB : List Nat → Bool
  | [] => true
  | x :: r => !r.contains x && nodupB r
def rgOk (N : Nat) : Bool :=
  decide (m ≤ ops.size) && ((List.range m).filterMap (slotOf ops)).all (fun t => decide (t < N)) && nodupB ((List.range m).filterMap (slotOf ops)) &&
  (List.range ops.size).all (fun i => (needs ops i).all (fun j => decide (j < i))) &&
  (List.range ops.size).all (fun t => decide (t < m) || (List.range t).all (fun j => (needs ops t).contains j))

abbrev Env := List (Nat × (Value → World → Prop))

/-- What an operation may lean on: the slots that the region's head does not write; what is known of those that it waits for. -/
structure Seen (E : Env) (i : Nat) (a : Act) (w : World) : Prop where
  defers : a.defers = a0.defers
  size : a.tmps.size = a0.tmps.size
  outer : ∀ t, (∀ j, j < m → slotOf ops j ≠ some t) → a.tmps[t]?.getD undef = a0.tmps[t]?.getD undef
  known : ∀ p ∈ E, p.1 ∈ needs ops i → ∃ v, (∀ t, slotOf ops p.1 = some t → a.tmps[t]?.getD undef = v) ∧ p.2 v w

def Ob (E : Env) (i : Nat) (φ : Value → World → Prop) : Prop :=
  ∀ o, ops[i]? = some o → ∀ a w, ρ w0 w → Seen ops a0 m E i a w →
    if Region.wanted o (yielded ops a.tmps) = true then Oper.wp P o a w (fun a' w' => ∃ v, a' = a.put o.dst v ∧ ρ w w' ∧ φ v w') Q else φ undef w

def putL (vs : Nat → Value) : List Nat → Act → Act
  | [], a => a
  | j :: r, a => putL vs r (a.put (slotOf ops j) (vs j))

def Fin (E : Env) : Prop := ∀ (vs : Nat → Value) (w : World), ρ w0 w → (∀ p ∈ E, p.2 (vs p.1) w) → wpOps P ops Q (List.range' m (ops.size - m)) (putL ops vs (List.range m) a0) w

def RG : Env → List Nat → Prop
  | E, [] => Fin P ops Q ρ a0 w0 m E
  | E, i :: r => ∃ φ : Value → World → Prop, (∀ v w w', ρ w w' → φ v w → φ v w') ∧ Ob P ops Q ρ a0 w0 m E i φ ∧ RG ((i, φ) :: E) r
end

section
variable {P : Program} {ops : Array Oper} {Q : Exit → Act → World → Prop} {ρ : World → World → Prop} {a0 : Act} {w0 : World} {m : Nat}

theorem RG.out : ∀ (l : List Nat) (E : Env), RG P ops Q ρ a0 w0 m E l →
    ∃ E' : Env, E'.map (·.1) = l.reverse ∧ (∀ p ∈ E', ∀ v w w', ρ w w' → p.2 v w → p.2 v w') ∧ (∀ p ∈ E', ∃ E1 : Env, (∀ q ∈ E1, q ∈ E' ++ E) ∧ Ob P ops Q ρ a0 w0 m E1 p.1 p.2) ∧ Fin P ops Q ρ a0 w0 m (E' ++ E)
  | [], E, h => ⟨[], rfl, fun _ h => by simp at h, fun _ h => by simp at h, h⟩
  | i :: r, E, ⟨φ, hs, ho, h⟩ => by
    obtain ⟨E', h1, h2, h3, h4⟩ := RG.out r ((i, φ) :: E) h
    have he : E' ++ (i, φ) :: E = (E' ++ [(i, φ)]) ++ E := by simp
    rw [he] at h4
    refine ⟨E' ++ [(i, φ)], by simp [h1], ?_, ?_, h4⟩
    · intro p hp
      rcases List.mem_append.1 hp with hp | hp
      · exact h2 p hp
      · rw [List.mem_singleton.1 hp]; exact hs
    · intro p hp
      rcases List.mem_append.1 hp with hp | hp
      · obtain ⟨E1, hE, ho1⟩ := h3 p hp
        exact ⟨E1, fun q hq => by rw [← he]; exact hE q hq, ho1⟩
      · rw [List.mem_singleton.1 hp]
        exact ⟨E, fun q hq => List.mem_append.2 (.inr hq), ho⟩

theorem rgOk_spec {N : Nat} (h : rgOk ops m N = true) : m ≤ ops.size ∧ (∀ j, j < m → ∀ t, slotOf ops j = some t → t < N) ∧ (∀ j k, j < m → k < m → ∀ t, slotOf ops j = some t → slotOf ops k = some t → j = k) ∧
    (∀ i j, j ∈ needs ops i → j < i) ∧ (∀ t, m ≤ t → t < ops.size → ∀ j, j < t → j ∈ needs ops t) := by
  simp only [rgOk, Bool.and_eq_true, decide_eq_true_eq] at h
  obtain ⟨⟨⟨⟨h1, h2⟩, h3⟩, h4⟩, h5⟩ := h
  refine ⟨h1, ?_, ?_, ?_, ?_⟩
  · intro j hj t ht
    have := List.all_eq_true.1 h2 t (List.mem_filterMap.2 ⟨j, List.mem_range.2 hj, ht⟩)
    simpa using this
  · have key : ∀ (l : List Nat), l.Nodup → nodupB (l.filterMap (slotOf ops)) = true → ∀ j k, j ∈ l → k ∈ l → ∀ t, slotOf ops j = some t → slotOf ops k = some t → j = k := by
      intro l
      induction l with
      | nil => intro _ _ j k hj; simp at hj
      | cons x r ih =>
        intro hn hb j k hj hk t htj htk
        have hn' := List.nodup_cons.1 hn
        cases hx : slotOf ops x with
        | none =>
          simp only [List.filterMap_cons, hx] at hb
          rcases List.mem_cons.1 hj with rfl | hj
          · rw [hx] at htj; cases htj
          rcases List.mem_cons.1 hk with rfl | hk
          · rw [hx] at htk; cases htk
          exact ih hn'.2 hb j k hj hk t htj htk
        | some s =>
          simp only [List.filterMap_cons, hx, nodupB, Bool.and_eq_true, Bool.not_eq_true', List.contains_eq_mem, decide_eq_false_iff_not] at hb
          have hno : ∀ y, y ∈ r → slotOf ops y ≠ some s := fun y hy hs => hb.1 (List.mem_filterMap.2 ⟨y, hy, hs⟩)
          rcases List.mem_cons.1 hj with hj0 | hj1
          · rcases List.mem_cons.1 hk with hk0 | hk1
            · rw [hj0, hk0]
            · rw [hj0, hx] at htj; cases htj; exact absurd htk (hno k hk1)
          · rcases List.mem_cons.1 hk with hk0 | hk1
            · rw [hk0, hx] at htk; cases htk; exact absurd htj (hno j hj1)
            · exact ih hn'.2 hb.2 j k hj1 hk1 t htj htk
    intro j k hj hk
    exact key (List.range m) List.nodup_range h3 j k (List.mem_range.2 hj) (List.mem_range.2 hk)
  · intro i j hj
    by_cases hi : i < ops.size
    · have h6 := List.all_eq_true.1 h4 i (List.mem_range.2 hi)
      simpa using List.all_eq_true.1 h6 j hj
    · have : ops[i]? = none := Array.getElem?_eq_none (by omega)
      simp [needs, this] at hj
  · intro t hm ht j hj
    have h6 := List.all_eq_true.1 h5 t (List.mem_range.2 ht)
    simp only [Bool.or_eq_true, decide_eq_true_eq] at h6
    rcases h6 with h6 | h6
    · omega
    · simpa using List.all_eq_true.1 h6 j (List.mem_range.2 hj)

theorem ready_needs {listed : Array Bool} {i : Nat} (h : i ∈ Region.ready .any ops listed) : i < ops.size ∧ listed.getD i true = false ∧ ∀ j ∈ needs ops i, listed.getD j false = true := by
  obtain ⟨h1, o, ho, hall⟩ := mem_ready.1 h
  refine ⟨(Array.getElem?_eq_some_iff.1 ho).1, h1, ?_⟩
  intro j hj
  simp only [needs, ho] at hj
  obtain ⟨e, he, rfl⟩ := List.mem_map.1 hj
  obtain ⟨he1, he2⟩ := List.mem_filter.1 he
  exact hall e (by simpa using he1) he2
theorem needs_ready {listed : Array Bool} {i : Nat} (hi : i < ops.size) (h1 : listed.getD i true = false) (h : ∀ j ∈ needs ops i, listed.getD j false = true) : i ∈ Region.ready .any ops listed := by
  refine mem_ready.2 ⟨h1, ops[i], by simp [hi], fun e he hb => h _ ?_⟩
  simp only [needs, Array.getElem?_eq_getElem hi]
  exact List.mem_map.2 ⟨e, List.mem_filter.2 ⟨by simpa using he, hb⟩, rfl⟩

/-- The tail: in order. -/
theorem rg_tail {N : Nat} (hok : rgOk ops m N = true) : ∀ (k t : Nat) (listed : Array Bool) (a : Act) (w : World), t + k = ops.size → m ≤ t → listed.size = ops.size → (∀ j, j < ops.size → listed.getD j false = decide (j < t)) →
    wpOps P ops Q (List.range' t k) a w → wpAny P .any ops Q k listed a w := by
  obtain ⟨_, _, _, hlt, htl⟩ := rgOk_spec hok
  intro k
  induction k with
  | zero =>
    intro t listed a w ht _ hsz hl h
    refine ⟨?_, by simpa [wpOps] using h⟩
    refine List.eq_nil_iff_forall_not_mem.2 fun i hi => ?_
    obtain ⟨hi1, hi2, _⟩ := ready_needs hi
    have := hl i hi1
    rw [Array.getD_eq_getD_getElem?, Array.getElem?_eq_getElem (by omega)] at hi2 this
    simp only [Option.getD_some] at hi2 this
    rw [hi2] at this
    have : ¬ i < t := by simpa using this.symm
    omega
  | succ k ih =>
    intro t listed a w ht hm hsz hl h
    have htn : t < ops.size := by omega
    have hun : listed.getD t true = false := by
      have := hl t htn
      rw [Array.getD_eq_getD_getElem?, Array.getElem?_eq_getElem (by omega)] at this ⊢
      simpa using this
    have hrd : t ∈ Region.ready .any ops listed := needs_ready htn hun fun j hj => by
      have := hlt t j hj
      rw [hl j (by omega)]; simpa using this
    refine ⟨fun h0 => by rw [h0] at hrd; simp at hrd, fun i hi => ?_⟩
    obtain ⟨hi1, hi2, hi3⟩ := ready_needs hi
    have hit : t ≤ i := by
      rcases Nat.lt_or_ge i t with hc | hc
      · have := hl i hi1
        rw [Array.getD_eq_getD_getElem?, Array.getElem?_eq_getElem (by omega)] at hi2 this
        simp only [Option.getD_some] at hi2 this
        rw [hi2] at this
        simp at this
        omega
      · exact hc
    have hie : i = t := by
      rcases Nat.lt_or_ge t i with hc | hc
      · have h6 := hi3 t (htl i (by omega) hi1 t hc)
        rw [hl t htn] at h6
        simp at h6
      · omega
    subst hie
    have h' : wpOps P ops Q (i :: List.range' (i + 1) k) a w := by simpa [List.range'_succ] using h
    rw [wpOps_cons] at h'
    refine wpOp_mono (fun a' w' hh => ih (i + 1) (listed.setIfInBounds i true) a' w' (by omega) (by omega) (by simpa using hsz) (fun j hj => ?_) hh) h'
    by_cases hji : i = j
    · subst hji; rw [Array.getD_eq_getD_getElem?]; simp [hsz, hj]
    · have := hl j hj
      rw [Array.getD_eq_getD_getElem?] at this ⊢
      rw [Array.getElem?_setIfInBounds_ne hji, this]
      simp only [decide_eq_decide]
      omega

theorem put_size (a : Act) (d : Option Tmp) (v : Value) : (a.put d v).tmps.size = a.tmps.size := by cases d <;> simp [Act.put]
theorem put_defers (a : Act) (d : Option Tmp) (v : Value) : (a.put d v).defers = a.defers := by cases d <;> rfl
theorem put_same {a : Act} {t : Tmp} {v : Value} (h : t < a.tmps.size) : (a.put (some t) v).tmps[t]?.getD undef = v := by simp [Act.put, h]
theorem put_other {a : Act} {d : Option Tmp} {t : Tmp} {v : Value} (h : d ≠ some t) : (a.put d v).tmps[t]?.getD undef = a.tmps[t]?.getD undef := by
  cases d with
  | none => rfl
  | some s => simp only [Act.put]; rw [Array.getElem?_setIfInBounds_ne (fun e => h (by rw [e]))]

theorem putL_size (vs : Nat → Value) : ∀ (l : List Nat) (a : Act), (putL ops vs l a).tmps.size = a.tmps.size
  | [], _ => rfl
  | j :: r, a => by rw [putL, putL_size vs r, put_size]
theorem putL_defers (vs : Nat → Value) : ∀ (l : List Nat) (a : Act), (putL ops vs l a).defers = a.defers
  | [], _ => rfl
  | j :: r, a => by rw [putL, putL_defers vs r, put_defers]
theorem putL_other (vs : Nat → Value) {t : Tmp} : ∀ (l : List Nat) (a : Act), (∀ j ∈ l, slotOf ops j ≠ some t) → (putL ops vs l a).tmps[t]?.getD undef = a.tmps[t]?.getD undef
  | [], _, _ => rfl
  | j :: r, a, h => by rw [putL, putL_other vs r _ (fun k hk => h k (List.mem_cons_of_mem _ hk)), put_other (h j List.mem_cons_self)]
theorem putL_at (vs : Nat → Value) {t : Tmp} {j : Nat} : ∀ (l : List Nat) (a : Act), j ∈ l → slotOf ops j = some t → t < a.tmps.size → (∀ k ∈ l, slotOf ops k = some t → k = j) → (putL ops vs l a).tmps[t]?.getD undef = vs j
  | [], _, h, _, _, _ => by simp at h
  | x :: r, a, h, ht, hs, hu => by
    rw [putL]
    by_cases hj : j ∈ r
    · exact putL_at vs r _ hj ht (by rw [put_size]; exact hs) (fun k hk => hu k (List.mem_cons_of_mem _ hk))
    · have hx : x = j := by rcases List.mem_cons.1 h with h | h; exact h.symm; exact absurd h hj
      subst hx
      rw [putL_other vs r _ (fun k hk hkt => hj (by rw [← hu k (List.mem_cons_of_mem _ hk) hkt]; exact hk)), ht, put_same hs]

theorem act_ext {a b : Act} (hd : a.defers = b.defers) (hs : a.tmps.size = b.tmps.size) (h : ∀ t, t < a.tmps.size → a.tmps[t]?.getD undef = b.tmps[t]?.getD undef) : a = b := by
  obtain ⟨ta, da⟩ := a
  obtain ⟨tb, db⟩ := b
  simp only at hd hs h
  subst hd
  congr 1
  refine Array.ext hs fun i h1 h2 => ?_
  have := h i h1
  simpa [h1, h2] using this

theorem nodup_fst {β : Type} : ∀ (E : List (Nat × β)), (E.map (·.1)).Nodup → ∀ p ∈ E, ∀ q ∈ E, p.1 = q.1 → p = q
  | [], _, p, hp, _, _, _ => by simp at hp
  | x :: r, hn, p, hp, q, hq, he => by
    rw [List.map_cons, List.nodup_cons] at hn
    rcases List.mem_cons.1 hp with hp0 | hp
    · rcases List.mem_cons.1 hq with hq0 | hq
      · rw [hp0, hq0]
      · exact absurd (List.mem_map.2 ⟨q, hq, by rw [← he, hp0]⟩) hn.1
    · rcases List.mem_cons.1 hq with hq0 | hq
      · exact absurd (List.mem_map.2 ⟨p, hp, by rw [he, hq0]⟩) hn.1
      · exact nodup_fst r hn.2 p hp q hq he

/-- **WHATEVER ORDER IS DRAWN**: each operation of the head by what it waits for; then the tail, in order. -/
theorem rg_any {N : Nat} (hok : rgOk ops m N = true) (hN : a0.tmps.size = N) (hrefl : ∀ w, ρ w w) (htrans : ∀ {A B C}, ρ A B → ρ B C → ρ A C) (h : RG P ops Q ρ a0 w0 m [] (List.range m)) :
    wpAny P .any ops Q ops.size (Array.replicate ops.size false) a0 w0 := by
  obtain ⟨hm, hsl, hun, hlt, htl⟩ := rgOk_spec hok
  obtain ⟨E, hE, hst, hob, hfin⟩ := RG.out _ _ h
  rw [List.append_nil] at hfin
  have hEm : ∀ i, i < m → ∃ φ, (i, φ) ∈ E := fun i hi => by
    have : i ∈ E.map (·.1) := by rw [hE]; simpa using hi
    obtain ⟨p, hp, rfl⟩ := List.mem_map.1 this
    exact ⟨p.2, hp⟩
  have hEl : ∀ p ∈ E, p.1 < m := fun p hp => by
    have : p.1 ∈ E.map (·.1) := List.mem_map.2 ⟨p, hp, rfl⟩
    rw [hE] at this; simpa using this
  have hEu : ∀ p ∈ E, ∀ q ∈ E, p.1 = q.1 → p = q := by
    have hn : (E.map (·.1)).Nodup := by rw [hE]; exact List.pairwise_reverse.2 ((List.nodup_range (n := m)).imp (fun h => h.symm))
    intro p hp q hq he
    exact nodup_fst E hn p hp q hq he
  have key : ∀ (fuel : Nat) (listed : Array Bool) (vs : Nat → Value) (a : Act) (w : World), listed.size = ops.size → fuel + (List.range ops.size).countP (fun j => listed.getD j false) = ops.size →
      (∀ j, m ≤ j → j < ops.size → listed.getD j false = false) → ρ w0 w → a.defers = a0.defers → a.tmps.size = a0.tmps.size →
      (∀ j, j < m → listed.getD j false = true → ∀ t, slotOf ops j = some t → a.tmps[t]?.getD undef = vs j) →
      (∀ t, (∀ j, j < m → listed.getD j false = true → slotOf ops j ≠ some t) → a.tmps[t]?.getD undef = a0.tmps[t]?.getD undef) →
      (∀ p ∈ E, listed.getD p.1 false = true → p.2 (vs p.1) w) → wpAny P .any ops Q fuel listed a w := by
    intro fuel
    induction fuel with
    | zero =>
      intro listed vs a w hsz hc hno hρ hd hs hin hout hfact
      have hall : ∀ j, j < ops.size → listed.getD j false = true := by
        have := List.countP_eq_length (p := fun j => listed.getD j false) (l := List.range ops.size)
        have h2 := this.1 (by simpa using hc)
        exact fun j hj => h2 j (List.mem_range.2 hj)
      have hmn : m = ops.size := by
        rcases Nat.lt_or_ge m ops.size with hc' | hc'
        · have := hno m (Nat.le_refl _) hc'
          rw [hall m hc'] at this; cases this
        · omega
      have ha : a = putL ops vs (List.range m) a0 := by
        refine act_ext (by rw [putL_defers, hd]) (by rw [putL_size, hs]) fun t ht => ?_
        by_cases hx : ∃ j, j < m ∧ slotOf ops j = some t
        · obtain ⟨j, hj, hjt⟩ := hx
          rw [hin j hj (hall j (by omega)) t hjt, putL_at vs _ _ (List.mem_range.2 hj) hjt (by rw [← hs]; exact ht) (fun k hk hkt => hun k j (List.mem_range.1 hk) hj t hkt hjt)]
        · rw [hout t (fun j hj _ e => hx ⟨j, hj, e⟩), putL_other vs _ _ (fun j hj e => hx ⟨j, List.mem_range.1 hj, e⟩)]
      have hf := hfin vs w hρ (fun p hp => hfact p hp (hall _ (by have := hEl p hp; omega)))
      rw [← ha] at hf
      refine rg_tail hok 0 ops.size listed a w rfl hm hsz (fun j hj => by rw [hall j hj]; simpa using hj) ?_
      have : ops.size - m = 0 := by omega
      rw [this] at hf
      simpa [wpOps] using hf
    | succ fuel ih =>
      intro listed vs a w hsz hc hno hρ hd hs hin hout hfact
      by_cases hall : ∀ j, j < m → listed.getD j false = true
      · -- the tail begins
        have ha : a = putL ops vs (List.range m) a0 := by
          refine act_ext (by rw [putL_defers, hd]) (by rw [putL_size, hs]) fun t ht => ?_
          by_cases hx : ∃ j, j < m ∧ slotOf ops j = some t
          · obtain ⟨j, hj, hjt⟩ := hx
            rw [hin j hj (hall j hj) t hjt, putL_at vs _ _ (List.mem_range.2 hj) hjt (by rw [← hs]; exact ht) (fun k hk hkt => hun k j (List.mem_range.1 hk) hj t hkt hjt)]
          · rw [hout t (fun j hj _ e => hx ⟨j, hj, e⟩), putL_other vs _ _ (fun j hj e => hx ⟨j, List.mem_range.1 hj, e⟩)]
        have hf := hfin vs w hρ (fun p hp => hfact p hp (hall _ (hEl p hp)))
        rw [← ha] at hf
        have hcm : (List.range ops.size).countP (fun j => listed.getD j false) = m := by
          have h1 : ∀ (k n : Nat), n = m + k → n ≤ ops.size → (List.range n).countP (fun j => listed.getD j false) = m := by
            intro k
            induction k with
            | zero =>
              intro n hn hle
              have := (List.countP_eq_length (p := fun j => listed.getD j false) (l := List.range n)).2 (fun j hj => hall j (by have := List.mem_range.1 hj; omega))
              simpa [hn] using this
            | succ k ihk =>
              intro n hn hle
              obtain ⟨n', rfl⟩ : ∃ n', n = n' + 1 := ⟨n - 1, by omega⟩
              rw [List.range_succ, List.countP_append, ihk n' (by omega) (by omega)]
              simp only [List.countP_singleton, hno n' (by omega) (by omega)]
              simp
          exact h1 (ops.size - m) ops.size (by omega) (Nat.le_refl _)
        have hk : fuel + 1 = ops.size - m := by omega
        rw [hk]
        rw [← hk] at hf
        refine hk ▸ rg_tail hok (fuel + 1) m listed a w (by omega) (Nat.le_refl _) hsz (fun j hj => ?_) hf
        by_cases hjm : j < m
        · rw [hall j hjm]; simpa using hjm
        · rw [hno j (by omega) hj]; simpa using hjm
      · refine ⟨fun h0 => ?_, fun i hi => ?_⟩
        · -- the first one that has not come up may come up
          have hex : ∃ j, j < m ∧ listed.getD j false = false := by
            refine Classical.byContradiction fun hno' => hall fun j hj => ?_
            cases hb : listed.getD j false with
            | true => rfl
            | false => exact absurd ⟨j, hj, hb⟩ hno'
          have hmin : ∃ j, j < m ∧ listed.getD j false = false ∧ ∀ k, k < j → listed.getD k false = true := by
            obtain ⟨j, hj, hb⟩ := hex
            induction j using Nat.strongRecOn with
            | _ j ihj =>
              by_cases hk : ∀ k, k < j → listed.getD k false = true
              · exact ⟨j, hj, hb, hk⟩
              · obtain ⟨k, hk⟩ := Classical.not_forall.1 hk
                obtain ⟨hkj, hkb⟩ := Classical.not_imp.1 hk
                exact ihj k hkj (by omega) (by simpa using hkb)
          obtain ⟨j, hj, hb, hk⟩ := hmin
          have : j ∈ Region.ready .any ops listed := needs_ready (by omega) (by
            rw [Array.getD_eq_getD_getElem?, Array.getElem?_eq_getElem (by omega)] at hb ⊢; simpa using hb) (fun k hk' => hk k (hlt j k hk'))
          rw [h0] at this; simp at this
        · obtain ⟨hi1, hi2, hi3⟩ := ready_needs hi
          have him : i < m := by
            rcases Nat.lt_or_ge i m with hc' | hc'
            · exact hc'
            · exact absurd (fun j (hj : j < m) => hi3 j (htl i hc' hi1 j (by omega))) hall
          obtain ⟨φ, hφ⟩ := hEm i him
          obtain ⟨E1, hE1, ho⟩ := hob _ hφ
          have hoi : ops[i]? = some ops[i] := Array.getElem?_eq_getElem hi1
          have hseen : Seen ops a0 m E1 i a w := by
            refine ⟨hd, hs, fun t ht => hout t (fun j hj _ => ht j hj), fun p hp hpn => ?_⟩
            have hpE : p ∈ E := by simpa using hE1 p hp
            exact ⟨vs p.1, fun t ht => hin p.1 (hEl p hpE) (hi3 _ hpn) t ht, hfact p hpE (hi3 _ hpn)⟩
          have h1 := ho _ hoi a w hρ hseen
          have hL : ∀ j, (listed.setIfInBounds i true).getD j false = if j = i then true else listed.getD j false := fun j => by
            by_cases hji : j = i
            · subst hji; rw [Array.getD_eq_getD_getElem?]; simp [hsz, hi1]
            · rw [Array.getD_eq_getD_getElem?, Array.getElem?_setIfInBounds_ne (Ne.symm hji), Array.getD_eq_getD_getElem?, if_neg hji]
          have hib : listed.getD i false = false := by
            rw [Array.getD_eq_getD_getElem?, Array.getElem?_eq_getElem (by omega)] at hi2 ⊢; simpa using hi2
          have hcount : fuel + (List.range ops.size).countP (fun j => (listed.setIfInBounds i true).getD j false) = ops.size := by
            have h2 : ∀ n, n ≤ ops.size → (List.range n).countP (fun j => (listed.setIfInBounds i true).getD j false) = (List.range n).countP (fun j => listed.getD j false) + if i < n then 1 else 0 := by
              intro n
              induction n with
              | zero => intro _; simp
              | succ n ihn =>
                intro hn
                rw [List.range_succ, List.countP_append, List.countP_append, ihn (by omega)]
                simp only [List.countP_singleton, hL]
                by_cases hni : n = i
                · subst hni; simp [hib]
                · rw [if_neg hni]
                  by_cases h3 : i < n
                  · rw [if_pos h3, if_pos (show i < n + 1 by omega)]; omega
                  · rw [if_neg h3, if_neg (show ¬ i < n + 1 by omega)]; omega
            rw [h2 _ (Nat.le_refl _), if_pos hi1]; omega
          have go : ∀ (v : Value) (w' : World), ρ w w' → φ v w' → wpAny P .any ops Q fuel (listed.setIfInBounds i true) (a.put (slotOf ops i) v) w' := by
            intro v w' hw' hv
            have hne : ∀ j, j < m → j ≠ i → ∀ t, slotOf ops j = some t → slotOf ops i ≠ some t := fun j hj hji t hjt hit => hji (hun j i hj him t hjt hit)
            refine ih (listed.setIfInBounds i true) (fun j => if j = i then v else vs j) _ _ (by simpa using hsz) hcount ?_ (htrans hρ hw') (by rw [put_defers, hd]) (by rw [put_size, hs]) ?_ ?_ ?_
            · intro j hj hjn
              rw [hL, if_neg (by omega)]; exact hno j hj hjn
            · intro j hj hb t hjt
              rw [hL] at hb
              by_cases hji : j = i
              · subst hji
                rw [if_pos rfl, hjt, put_same (Nat.lt_of_lt_of_le (hsl j hj t hjt) (by omega))]
              · rw [if_neg hji] at hb ⊢
                rw [put_other (hne j hj hji t hjt)]
                exact hin j hj hb t hjt
            · intro t ht
              have hi' := ht i him (by rw [hL, if_pos rfl])
              rw [put_other hi']
              refine hout t fun j hj hb => ?_
              by_cases hji : j = i
              · subst hji; exact hi'
              · exact ht j hj (by rw [hL, if_neg hji]; exact hb)
            · intro p hp hb
              rw [hL] at hb
              by_cases hpi : p.1 = i
              · have : p = (i, φ) := hEu p hp _ hφ hpi
                subst this
                simpa using hv
              · rw [if_neg hpi] at hb ⊢
                exact hst p hp _ _ _ hw' (hfact p hp hb)
          have hso : slotOf ops i = ops[i].dst := by simp [slotOf, hoi]
          unfold wpOp
          simp only [hoi]
          by_cases hw : Region.wanted ops[i] (yielded ops a.tmps) = true
          · rw [if_pos hw] at h1 ⊢
            refine .inl (Oper.wp_mono (fun a' w' hh => ?_) h1)
            obtain ⟨v, rfl, hw', hv⟩ := hh
            rw [← hso]
            exact go v w' hw' hv
          · rw [if_neg hw] at h1 ⊢
            rw [← hso]
            exact go undef w (hrefl w) h1
  have h0 : ∀ j, (Array.replicate ops.size false).getD j false = false := fun j => by
    rw [Array.getD_eq_getD_getElem?]
    by_cases hj : j < ops.size
    · rw [Array.getElem?_eq_getElem (by simpa using hj)]; simp
    · rw [Array.getElem?_eq_none (by simpa using Nat.le_of_not_lt hj)]; rfl
  refine key ops.size _ (fun _ => undef) a0 w0 (by simp) ?_ (fun j _ _ => h0 j) (hrefl w0) rfl rfl (fun j _ hb => by rw [h0] at hb; cases hb) (fun _ _ => rfl) (fun p _ hb => by rw [h0] at hb; cases hb)
  have : (List.range ops.size).countP (fun j => (Array.replicate ops.size false).getD j false) = 0 := List.countP_eq_zero.2 fun j _ => by rw [h0]; simp
  omega

theorem rg_region {id N : Nat} {a : Act} {w : World} (m : Nat) (ρ : World → World → Prop) (hm : P.follows .mixedOrders = true) (hok : rgOk ops m N = true) (hN : a.tmps.size = N) (hrefl : ∀ w, ρ w w) (htrans : ∀ {A B C}, ρ A B → ρ B C → ρ A C)
    (h : RG P ops Q ρ a w.drew m [] (List.range m)) : (Code.region id ops true).wp P Q a w :=
  wp_region_any hm (rg_any hok hN hrefl htrans h)

theorem rg_regionIn {id N n : Nat} {r : Option Nat} {a : Act} {w : World} (m : Nat) (ρ : World → World → Prop) (hm : P.follows .mixedOrders = true) (hok : rgOk ops m N = true) (hd : noDefer ops = true) (hQ : ∀ a w, ¬ Q .outgrown a w) (hN : a.tmps.size = N) (hrefl : ∀ w, ρ w w) (htrans : ∀ {A B C}, ρ A B → ρ B C → ρ A C)
    (h : RG P ops Q ρ a w.drew m [] (List.range m)) : (Code.region id ops true).wpIn { Fence.wide with round := r } n P Q a w := by
  refine wpIn_region_draw fun t => opsIn_of hd hQ _ _ _ ?_
  simp only [Region.schedule, hm, Bool.true_or, if_true]
  exact wpAny_sound ops.size t _ a _ (rg_any hok hN hrefl htrans h)

/-! ### Steps -/
theorem rg_op {E : Env} {i : Nat} {r : List Nat} (φ : Value → World → Prop) (hs : ∀ v w w', ρ w w' → φ v w → φ v w') (ho : Ob P ops Q ρ a0 w0 m E i φ) (h : RG P ops Q ρ a0 w0 m ((i, φ) :: E) r) : RG P ops Q ρ a0 w0 m E (i :: r) := ⟨φ, hs, ho, h⟩

/-- An operation that only yields a value. -/
theorem rg_val {E : Env} {i : Nat} {r : List Nat} {o : Oper} (v : Value) (hrefl : ∀ w, ρ w w) (hi : ops[i]? = some o)
    (hw : ∀ a w, ρ w0 w → Seen ops a0 m E i a w → Region.wanted o (yielded ops a.tmps) = true)
    (hr : ∀ a w, ρ w0 w → Seen ops a0 m E i a w → (execOp a.eval o).run P w = .ok (.value v) w) (h : RG P ops Q ρ a0 w0 m ((i, fun x _ => x = v) :: E) r) : RG P ops Q ρ a0 w0 m E (i :: r) := by
  refine rg_op _ (fun _ _ _ _ h => h) (fun o' ho' a w hρ hse => ?_) h
  obtain rfl : o = o' := Option.some.inj (hi.symm.trans ho')
  rw [if_pos (hw a w hρ hse)]
  unfold Oper.wp
  rw [hr a w hρ hse]
  exact ⟨v, rfl, hrefl w, rfl⟩
/-- One whose guard is off. -/
theorem rg_off {E : Env} {i : Nat} {r : List Nat} {o : Oper} (hi : ops[i]? = some o)
    (hw : ∀ a w, ρ w0 w → Seen ops a0 m E i a w → Region.wanted o (yielded ops a.tmps) = false) (h : RG P ops Q ρ a0 w0 m ((i, fun x _ => x = undef) :: E) r) : RG P ops Q ρ a0 w0 m E (i :: r) := by
  refine rg_op _ (fun _ _ _ _ h => h) (fun o' ho' a w hρ hse => ?_) h
  obtain rfl : o = o' := Option.some.inj (hi.symm.trans ho')
  rw [hw a w hρ hse, if_neg (by simp)]
/-- One that yields a value and may lay memory. -/
theorem rg_run {E : Env} {i : Nat} {r : List Nat} {o : Oper} (φ : Value → World → Prop) (hs : ∀ v w w', ρ w w' → φ v w → φ v w') (hi : ops[i]? = some o)
    (hw : ∀ a w, ρ w0 w → Seen ops a0 m E i a w → Region.wanted o (yielded ops a.tmps) = true)
    (hr : ∀ a w, ρ w0 w → Seen ops a0 m E i a w → ∃ v w', (execOp a.eval o).run P w = .ok (.value v) w' ∧ ρ w w' ∧ φ v w') (h : RG P ops Q ρ a0 w0 m ((i, φ) :: E) r) : RG P ops Q ρ a0 w0 m E (i :: r) := by
  refine rg_op φ hs (fun o' ho' a w hρ hse => ?_) h
  obtain rfl : o = o' := Option.some.inj (hi.symm.trans ho')
  rw [if_pos (hw a w hρ hse)]
  obtain ⟨v, w', h1, h2, h3⟩ := hr a w hρ hse
  unfold Oper.wp
  rw [h1]
  exact ⟨v, rfl, h2, h3⟩
/-- A store. -/
theorem rg_skip {E : Env} {i : Nat} {r : List Nat} {o : Oper} (φ : World → Prop) (hs : ∀ w w', ρ w w' → φ w → φ w') (hi : ops[i]? = some o)
    (hw : ∀ a w, ρ w0 w → Seen ops a0 m E i a w → Region.wanted o (yielded ops a.tmps) = true)
    (hr : ∀ a w, ρ w0 w → Seen ops a0 m E i a w → ∃ w', (execOp a.eval o).run P w = .ok .skip w' ∧ ρ w w' ∧ φ w') (h : RG P ops Q ρ a0 w0 m ((i, fun _ => φ) :: E) r) : RG P ops Q ρ a0 w0 m E (i :: r) := by
  refine rg_op (fun _ => φ) (fun _ => hs) (fun o' ho' a w hρ hse => ?_) h
  obtain rfl : o = o' := Option.some.inj (hi.symm.trans ho')
  rw [if_pos (hw a w hρ hse)]
  obtain ⟨w', h1, h2, h3⟩ := hr a w hρ hse
  unfold Oper.wp
  rw [h1]
  exact ⟨undef, rfl, h2, h3⟩
/-- A call. -/
theorem rg_call {E : Env} {i : Nat} {r : List Nat} {o : Oper} {f : FuncId} {fn : Func} {as : Array Operand} {ts : Array TypeId} (φ : Value → World → Prop) (hs : ∀ v w w', ρ w w' → φ v w → φ v w') (hi : ops[i]? = some o)
    (hop : o.op = .call { callee := .value (.func f), args := as, argTypes := ts }) (hf : P.funcs[f]? = some fn) (hname : (fn.name == "runtime.NumGoroutine") = false) (hb : fn.body.isSome = true)
    (hw : ∀ a w, ρ w0 w → Seen ops a0 m E i a w → Region.wanted o (yielded ops a.tmps) = true)
    (hr : ∀ a w, ρ w0 w → Seen ops a0 m E i a w → Calls P f (as.map a.eval) w fun e w' => ∃ v, e = .returned v ∧ ρ w w' ∧ φ v w') (h : RG P ops Q ρ a0 w0 m ((i, φ) :: E) r) : RG P ops Q ρ a0 w0 m E (i :: r) := by
  refine rg_op φ hs (fun o' ho' a w hρ hse => ?_) h
  obtain rfl : o = o' := Option.some.inj (hi.symm.trans ho')
  have h1 := call_ (ops := ops) (Q := Q) (oi := o) (N := o.dst) (a := a) (w := w) (K := fun a' w' => ∃ v, a' = a.put o.dst v ∧ ρ w w' ∧ φ v w') f (as.map a.eval) (hw a w hρ hse) rfl (by
    have he := enters_ hf hname hb (as.map a.eval) w
    unfold execOp
    simp [hop, resolve, Deferred.ofValue, invoke, Act.eval, he]) ((hr a w hρ hse).mono fun e w' ⟨v, hv, h2, h3⟩ => ⟨v, hv, v, rfl, h2, h3⟩)
  rw [if_pos (hw a w hρ hse)] at h1 ⊢
  exact h1
/-- What is known of a slot. -/
theorem Seen.get {E : Env} {i : Nat} {a : Act} {w : World} (h : Seen ops a0 m E i a w) (k : Nat) {p : Nat × (Value → World → Prop)} (hk : E[k]? = some p) (hn : (needs ops i).contains p.1 = true) {t : Tmp} (ht : slotOf ops p.1 = some t) : p.2 (a.tmps[t]?.getD undef) w := by
  obtain ⟨v, h1, h2⟩ := h.known p (List.mem_of_getElem? hk) (by simpa using hn)
  rw [h1 t ht]; exact h2
theorem Seen.out {E : Env} {i : Nat} {a : Act} {w : World} (h : Seen ops a0 m E i a w) (t : Tmp) (ht : (((List.range m).filterMap (slotOf ops)).contains t) = false) : a.tmps[t]?.getD undef = a0.tmps[t]?.getD undef :=
  h.outer t fun j hj e => by
    have : t ∈ (List.range m).filterMap (slotOf ops) := List.mem_filterMap.2 ⟨j, List.mem_range.2 hj, e⟩
    simp [this] at ht
theorem wanted_none {o : Oper} {f : Nat → Option Bool} (h : o.guard = none) : Region.wanted o f = true := by simp [Region.wanted, h]
theorem yielded_of {a : Act} {g : Nat} {t : Tmp} {b : Bool} (hs : slotOf ops g = some t) (h : a.tmps[t]?.getD undef = .bool b) : yielded ops a.tmps g = some b := by
  have hs' : (ops[g]?).bind (·.dst) = some t := hs
  unfold yielded
  rw [hs']
  cases ht : a.tmps[t]? with
  | none => rw [ht] at h; cases h
  | some v => rw [ht] at h; simp only [Option.getD_some] at h; simp [ht, h]
theorem on_guard {o : Oper} {a : Act} {g : Nat} {t : Tmp} {b : Bool} (ho : o.guard = some (g, b)) (hs : slotOf ops g = some t) (h : a.tmps[t]?.getD undef = .bool b) : Region.wanted o (yielded ops a.tmps) = true := by
  simp [Region.wanted, ho, yielded_of hs h]
theorem of_guard {o : Oper} {a : Act} {g : Nat} {t : Tmp} {b b' : Bool} (ho : o.guard = some (g, b)) (hs : slotOf ops g = some t) (h : a.tmps[t]?.getD undef = .bool b') : Region.wanted o (yielded ops a.tmps) = (b' == b) := by
  simp [Region.wanted, ho, yielded_of hs h]
/-- The tail's operations. -/
theorem tail_val {i : Nat} {r : List Nat} {o : Oper} {a : Act} {w w' : World} (v : Value) (hi : ops[i]? = some o) (hw : Region.wanted o (yielded ops a.tmps) = true) (hr : (execOp a.eval o).run P w = .ok (.value v) w')
    (h : wpOps P ops Q r (a.put o.dst v) w') : wpOps P ops Q (i :: r) a w := by
  rw [wpOps_cons]
  unfold wpOp
  simp only [hi, hw, if_true]
  refine .inl ?_
  unfold Oper.wp
  rw [hr]
  exact h
theorem tail_skip {i : Nat} {r : List Nat} {o : Oper} {a : Act} {w w' : World} (hi : ops[i]? = some o) (hw : Region.wanted o (yielded ops a.tmps) = true) (hr : (execOp a.eval o).run P w = .ok .skip w')
    (h : wpOps P ops Q r (a.put o.dst undef) w') : wpOps P ops Q (i :: r) a w := by
  rw [wpOps_cons]
  unfold wpOp
  simp only [hi, hw, if_true]
  refine .inl ?_
  unfold Oper.wp
  rw [hr]
  exact h
theorem tail_end {a : Act} {w : World} (h : Q .normal a w) : wpOps P ops Q [] a w := by simpa [wpOps] using h
end
/-! ### Worlds that only grow, rows -/
/-- All blocks that were there stay. -/
def Grows (A B : World) : Prop := Below A.heap.size A B
theorem Grows.refl (w : World) : Grows w w := Below.refl _ _
theorem Grows.trans {A B C : World} (h1 : Grows A B) (h2 : Grows B C) : Grows A C := Below.trans h1 (h2.mono h1.size)
/-- A slice value that reads as a list. -/
def Rowed {α : Type} (d : Kd α) (xs : List α) (v : Value) (w : World) : Prop := ∃ A c, v = .slice A xs.length c ∧ xs.length ≤ c ∧ d.C w A xs.length xs
theorem Rowed.grows {α : Type} {d : Kd α} {xs : List α} {v : Value} {w w' : World} (hg : Grows w w') (h : Rowed d xs v w) : Rowed d xs v w' := by
  obtain ⟨A, c, h1, h2, h3⟩ := h
  exact ⟨A, c, h1, h2, Kd.C_below h3 hg⟩
section
variable {P : Program} {ops : Array Oper} {Q : Exit → Act → World → Prop} {a0 : Act} {w0 : World} {m : Nat}
/-- A slice that is built of elements. -/
theorem rg_lit {α : Type} (d : Kd α) (e : Nat) {E : Env} {i : Nat} {r : List Nat} {o : Oper} {N : Tmp} (xs : List α) (hi : ops[i]? = some o) (hd : o.dst = some N)
    (hw : ∀ a w, Grows w0 w → Seen ops a0 m E i a w → Region.wanted o (yielded ops a.tmps) = true) (hm : xs.length ≤ 9223372036854775807)
    (hr : ∀ a w, Grows w0 w → Seen ops a0 m E i a w → ∃ inner, (execOp a.eval o).run P w = .ok (.value (.slice (some ⟨w.heap.size, 0, none⟩) xs.length xs.length)) (w.alloc (.cells inner.toArray e)) ∧ Reps (d.M w w.heap.size (fun _ => True)) d.sz xs inner)
    (h : RG P ops Q Grows a0 w0 m ((i, Rowed d xs) :: E) r) : RG P ops Q Grows a0 w0 m E (i :: r) := by
  refine rg_op (Rowed d xs) (fun _ _ _ hg hx => hx.grows hg) (fun o' ho' a w hρ hse => ?_) h
  obtain rfl : o = o' := Option.some.inj (hi.symm.trans ho')
  have hww := hw a w hρ hse
  obtain ⟨inner, hrun, hrep⟩ := hr a w hρ hse
  have h1 := Kd.R_lit_step (Q := Q) (Kc := fun a' w' => ∃ v, a' = a.put o.dst v ∧ Grows w w' ∧ Rowed d xs v w') d (w0 := w) w.heap.size e hww hd hrun (ok := fun _ => True) (okp := fun _ => True) hrep (fun _ h => h) trivial (Below.refl _ _) (Nat.le_refl _) hm (fun v1 w1 hR hB _ _ => ⟨v1, rfl, hB, Kd.R_reads hR⟩)
  rw [if_pos hww] at h1 ⊢
  exact h1
end
end Go.Proofs.YtimflmgdnfpodaaRG
