/- Parts of the proof of one statement, packed: what the program's functions compute. No conditions. -/
import Derived.Test.YtinkbljjpafadaaKB5
import Derived.Test.YtinkbljjpafadaaKB3
import Derived.Test.YtinkbljjpafadaaKB4
import Derived.Test.YtinkbljjpafadaaKB2
set_option linter.unusedSimpArgs false
set_option linter.unusedVariables false
set_option maxRecDepth 100000
set_option maxHeartbeats 8000000
section
namespace Go.Proofs.Ytinkbljjpafadaa.Pure
open Go.RowKit Go.Proofs.Ytinkbljjpafadaa.PAll Go.Proofs.YtinkbljjpafadaaW.PrintWords Go.Proofs.YtinkbljjpafadaaW.PrintLast Go.Proofs.YtinkbljjpafadaaHChain Go.Proofs.YtinkbljjpafadaaEv Go.Proofs.YtinkbljjpafadaaTab Go.Proofs.YtinkbljjpafadaaWords
abbrev Vr := S58
abbrev Sg := S61
theorem rdC (l : List Cl) (i : Nat) (h : i < l.length) : zar l (i : Int) = l[i] := by
 unfold zar
 rw [Int.toNat_natCast, List.getD_eq_getElem?_getD, List.getElem?_eq_getElem h]; rfl
theorem zhC (l : List Vr) (hl : l.length ≤ 1000) : ∀ (d i : Nat), d = l.length - i → i ≤ l.length → (∀ j, j < i → ∀ h : j < l.length, l[j].f1.size ≤ 30) →
  ∃ b, Evn (fun k => zao.l0 k l (i : Int)) b ∧ (b = false → ∀ v ∈ l, v.f1.size ≤ 30) := by
 intro d
 induction d with
 | zero =>
  intro i hd hi hb
  refine ⟨false, Evn.succ (Evn.neg o9 (Evn.ret _)), fun _ x hx => ?_⟩
  obtain ⟨j, hj, rfl⟩ := List.getElem_of_mem hx
  exact hb j o9 hj
 | succ d ih =>
  intro i hd hi hb
  have h : i < l.length := by omega
  by_cases h0 : ((l[i].f0.size : Nat) : Int) > 30
  ·
   exact ⟨true, Evn.succ (Evn.pos o9 (Evn.pos o9 (Evn.pos (by rw [rdV l i h]; exact h0) (Evn.ret _)))), fun h => by cases h⟩
  by_cases h1 : ((l[i].f1.size : Nat) : Int) > 30
  ·
   exact ⟨true, Evn.succ (Evn.pos o9 (Evn.pos o9 (Evn.neg (by rw [rdV l i h]; exact h0) (Evn.pos (by rw [rdV l i h]; exact h1) (Evn.ret _))))), fun h => by cases h⟩
  obtain ⟨b, h3, h4⟩ := ih (i + 1) o9 o9 fun j hj hjl => by
   rcases Nat.lt_or_ge j i with h3 | h3
   ·
    exact hb j h3 hjl
   ·
    obtain rfl : j = i := by omega
    omega
  refine ⟨b, Evn.succ (Evn.pos o9 (Evn.pos o9 (Evn.neg (by rw [rdV l i h]; exact h0) (Evn.neg (by rw [rdV l i h]; exact h1) ?_)))), h4⟩
  rw [w1 h o9]; exact h3
theorem zez (l : List Vr) (hl : l.length ≤ 1000) : ∃ b, Evn (fun k => zao.f k l) b ∧ (b = false → ∀ v ∈ l, v.f1.size ≤ 30) := zhC l hl l.length 0 o9 o9 fun j hj => by omega
def okM (m : Sg) : Prop := m.f2.size ≤ 30 ∧ m.f1.length ≤ 10 ∧ ∀ v ∈ m.f1, v.f1.size ≤ 30
def okC (c : Cl) : Prop := c.f2.length ≤ 7 ∧ c.f3.length ≤ 7 ∧ (∀ v ∈ c.f2, v.f1.size ≤ 30) ∧ ∀ m ∈ c.f3, okM m
theorem zle (t : List Cl) (i : Nat) (b' : Bool) (hn : Evn (fun k => zah.l0 k t (wrap64 ((i : Int) + 1))) b') (n s : ByteArray) (fs : List Vr) (ms : List Sg) (hm : ms.length ≤ 7) : ∀ (d j : Nat), d = ms.length - j → j ≤ ms.length → (∀ q, q < j → ∀ h : q < ms.length, okM ms[q]) →
  ∃ b, Evn (fun k => zah.l1 k t (i : Int) (j : Int) n s fs ms) b ∧ (b = false → b' = false ∧ ∀ m ∈ ms, okM m) := by
 intro d
 induction d with
 | zero =>
  intro j hd hj hb
  refine ⟨b', Evn.succ (Evn.neg o9 hn), fun e => ⟨e, fun x hx => ?_⟩⟩
  obtain ⟨q, hq, rfl⟩ := List.getElem_of_mem hx
  exact hb q o9 hq
 | succ d ih =>
  intro j hd hj hb
  have h : j < ms.length := by omega
  by_cases h0 : ((ms[j].f0.size : Nat) : Int) > 30
  ·
   exact ⟨true, Evn.succ (Evn.pos o9 (Evn.pos o9 (Evn.pos (by rw [rdS ms j h]; exact h0) (Evn.ret _)))), fun h => by cases h⟩
  by_cases h1 : ((ms[j].f2.size : Nat) : Int) > 30
  ·
   exact ⟨true, Evn.succ (Evn.pos o9 (Evn.pos o9 (Evn.neg (by rw [rdS ms j h]; exact h0) (Evn.pos (by rw [rdS ms j h]; exact h1) (Evn.ret _))))), fun h => by cases h⟩
  by_cases h2 : ((ms[j].f1.length : Nat) : Int) > 10
  ·
   exact ⟨true, Evn.succ (Evn.pos o9 (Evn.pos o9 (Evn.neg (by rw [rdS ms j h]; exact h0) (Evn.neg (by rw [rdS ms j h]; exact h1) (Evn.pos (by rw [rdS ms j h]; exact h2) (Evn.ret _)))))), fun h => by cases h⟩
  obtain ⟨v, h3, h4⟩ := zez ms[j].f1 o9
  rw [← rdS ms j h] at h3
  cases v with
  | true => exact ⟨true, Evn.succ (Evn.pos o9 (Evn.pos o9 (Evn.neg (by rw [rdS ms j h]; exact h0) (Evn.neg (by rw [rdS ms j h]; exact h1) (Evn.neg (by rw [rdS ms j h]; exact h2) (Evn.bind h3 (Evn.pos rfl (Evn.ret _)))))))), fun h => by cases h⟩
  | false =>
   obtain ⟨b, h5, h6⟩ := ih (j + 1) o9 o9 fun q hq hql => by
    rcases Nat.lt_or_ge q j with h3 | h3
    ·
     exact hb q h3 hql
    ·
     obtain rfl : q = j := by omega
     exact ⟨by omega, by omega, h4 rfl⟩
   refine ⟨b, Evn.succ (Evn.pos o9 (Evn.pos o9 (Evn.neg (by rw [rdS ms j h]; exact h0) (Evn.neg (by rw [rdS ms j h]; exact h1) (Evn.neg (by rw [rdS ms j h]; exact h2) (Evn.bind h3 (Evn.neg s9 ?_))))))), h6⟩
   rw [w1 h o9]; exact h5
theorem zkD (t : List Cl) : ∀ (d i : Nat), d = 10 - i → i ≤ 10 → i ≤ t.length →
  ∃ b, Evn (fun k => zah.l0 k t (i : Int)) b ∧ (b = false → t.length ≤ 9 ∧ ∀ j, i ≤ j → ∀ h : j < t.length, okC t[j]) := by
 intro d
 induction d with
 | zero =>
  intro i hd hi hil
  obtain rfl : i = 10 := by omega
  by_cases h : (10 : Int) < (t.length : Int)
  ·
   refine ⟨true, Evn.succ (Evn.pos h (Evn.succ (Evn.congr (g' := fun _ => some (decide ((t.length : Int) > 9))) (fun k => rfl) ((Evn.ret _).val ?_)))), fun h => by cases h⟩
   simp; omega
  ·
   refine ⟨true, Evn.succ (Evn.neg h (Evn.succ (Evn.congr (g' := fun _ => some (decide ((t.length : Int) > 9))) (fun k => rfl) ((Evn.ret _).val ?_)))), fun h => by cases h⟩
   simp; omega
 | succ d ih =>
  intro i hd hi hil
  by_cases h : i < t.length
  ·
   have hs : ∀ {b : Bool}, Evn (fun k => if (0 : Int) ≤ (i : Int) then (if (i : Int) < (t.length : Int) then (if (((zar t (i : Int)).f0).size : Int) > 30 then (zah.j2 k t (i : Int) true ((zar t (i : Int)).f0) ((zar t (i : Int)).f1) ((zar t (i : Int)).f2) ((zar t (i : Int)).f3)) else (if (((zar t (i : Int)).f1).size : Int) > 30 then (zah.j2 k t (i : Int) true ((zar t (i : Int)).f0) ((zar t (i : Int)).f1) ((zar t (i : Int)).f2) ((zar t (i : Int)).f3)) else (if (((zar t (i : Int)).f2).length : Int) > 7 then (zah.j2 k t (i : Int) true ((zar t (i : Int)).f0) ((zar t (i : Int)).f1) ((zar t (i : Int)).f2) ((zar t (i : Int)).f3)) else (if (((zar t (i : Int)).f3).length : Int) > 7 then (zah.j2 k t (i : Int) true ((zar t (i : Int)).f0) ((zar t (i : Int)).f1) ((zar t (i : Int)).f2) ((zar t (i : Int)).f3)) else ((zao.f k ((zar t (i : Int)).f2)).bind fun t265 => (zah.j2 k t (i : Int) t265 ((zar t (i : Int)).f0) ((zar t (i : Int)).f1) ((zar t (i : Int)).f2) ((zar t (i : Int)).f3))))))) else (none)) else (none)) b →
     Evn (fun k => zah.l0 k t (i : Int)) b := fun hh => Evn.succ (Evn.pos o9 (Evn.succ (Evn.pos (by simp; omega) hh)))
   have hj : ∀ (n s : ByteArray) (fs : List Vr) (ms : List Sg), Evn (fun k => zah.j2 k t (i : Int) true n s fs ms) true := fun n s fs ms => Evn.succ (Evn.congr (g' := fun _ => some true) (fun k => rfl) (Evn.ret _))
   rw [rdC t i h] at hs
   by_cases h0 : ((t[i].f0.size : Nat) : Int) > 30
   ·
    exact ⟨true, hs (Evn.pos o9 (Evn.pos o9 (Evn.pos h0 (hj _ _ _ _)))), fun h => by cases h⟩
   by_cases h1 : ((t[i].f1.size : Nat) : Int) > 30
   ·
    exact ⟨true, hs (Evn.pos o9 (Evn.pos o9 (Evn.neg h0 (Evn.pos h1 (hj _ _ _ _))))), fun h => by cases h⟩
   by_cases h2 : ((t[i].f2.length : Nat) : Int) > 7
   ·
    exact ⟨true, hs (Evn.pos o9 (Evn.pos o9 (Evn.neg h0 (Evn.neg h1 (Evn.pos h2 (hj _ _ _ _)))))), fun h => by cases h⟩
   by_cases h3 : ((t[i].f3.length : Nat) : Int) > 7
   ·
    exact ⟨true, hs (Evn.pos o9 (Evn.pos o9 (Evn.neg h0 (Evn.neg h1 (Evn.neg h2 (Evn.pos h3 (hj _ _ _ _))))))), fun h => by cases h⟩
   obtain ⟨v, h4, h5⟩ := zez t[i].f2 o9
   cases v with
   | true => exact ⟨true, hs (Evn.pos o9 (Evn.pos o9 (Evn.neg h0 (Evn.neg h1 (Evn.neg h2 (Evn.neg h3 (Evn.bind h4 (hj _ _ _ _)))))))), fun h => by cases h⟩
   | false =>
    obtain ⟨b', h6, h7⟩ := ih (i + 1) o9 o9 o9
    rw [← w1 (show i < 10 by omega) o9] at h6
    obtain ⟨b, h8, h9⟩ := zle t i b' h6 t[i].f0 t[i].f1 t[i].f2 t[i].f3 o9 t[i].f3.length 0 o9 o9 (fun q hq => by omega)
    refine ⟨b, hs (Evn.pos o9 (Evn.pos o9 (Evn.neg h0 (Evn.neg h1 (Evn.neg h2 (Evn.neg h3 (Evn.bind h4 (Evn.succ (Evn.congr (fun k => rfl) h8))))))))), fun e => ?_⟩
    obtain ⟨e1, e2⟩ := h9 e
    obtain ⟨e3, e4⟩ := h7 e1
    refine ⟨e3, fun j hj hjl => ?_⟩
    rcases Nat.eq_or_lt_of_le hj with rfl | hj
    ·
     exact ⟨by omega, by omega, h5 rfl, e2⟩
    ·
     exact e4 j hj hjl
  ·
   refine ⟨decide ((t.length : Int) > 9), Evn.succ (Evn.neg o9 (Evn.succ (Evn.congr (fun k => rfl) (Evn.ret _)))), fun e => ⟨by have := of_decide_eq_false e; omega, fun j hj hjl => by omega⟩⟩
structure TS (t : List Cl) : Prop extends TB t where
 vs : ∀ c ∈ t, ∀ v ∈ c.f2, v.f1.size ≤ 30
 rs : ∀ c ∈ t, ∀ m ∈ c.f3, m.f2.size ≤ 30
 pv : ∀ c ∈ t, ∀ m ∈ c.f3, ∀ v ∈ m.f1, v.f1.size ≤ 30
theorem zjB (t : List Cl) : ∃ b, Evn (fun k => zah.f k t) b ∧ (b = false → TS t) := by
 obtain ⟨b, h1, h2⟩ := zkD t 10 0 rfl o9 o9
 refine ⟨b, h1, fun e => ?_⟩
 obtain ⟨h3, h4⟩ := h2 e
 have h5 : ∀ c ∈ t, okC c := fun c hc => by
  obtain ⟨j, hj, rfl⟩ := List.getElem_of_mem hc
  exact h4 j o9 hj
 exact { len := h3, fs := fun c hc => (h5 c hc).1, ms := fun c hc => (h5 c hc).2.1, ps := fun c hc m hm => ((h5 c hc).2.2.2 m hm).2.1, vs := fun c hc => (h5 c hc).2.2.1, rs := fun c hc m hm => ((h5 c hc).2.2.2 m hm).1, pv := fun c hc m hm => ((h5 c hc).2.2.2 m hm).2.2 }
theorem zkb (a b c : Int) (s : ByteArray) (l : List Lr) : ∀ (d i : Nat), d = 61 - i → i ≤ 61 → i ≤ l.length →
  ∃ r, Evn (fun k => zam.l0 k (i : Int) a b c s l) r ∧ (r = false → l.length ≤ 60 ∧ s.size ≤ 60) := by
 have fin : ∀ i : Int, ∃ r, Evn (fun k => zam.j1 k i false a b c s l) r ∧ (r = false → l.length ≤ 60 ∧ s.size ≤ 60) := fun i => by
  by_cases h : (l.length : Int) > 60
  ·
   exact ⟨true, Evn.succ (Evn.congr (g' := fun _ => if (l.length : Int) > 60 then some true else some (decide ((s.size : Int) > 60))) (fun k => rfl) (Evn.pos h (Evn.ret _))), fun h => by cases h⟩
  ·
   refine ⟨decide ((s.size : Int) > 60), Evn.succ (Evn.congr (g' := fun _ => if (l.length : Int) > 60 then some true else some (decide ((s.size : Int) > 60))) (fun k => rfl) (Evn.neg h (Evn.ret _))), fun e => ?_⟩
   have := of_decide_eq_false e; omega
 intro d
 induction d with
 | zero =>
  intro i hd hi hil
  obtain rfl : i = 61 := by omega
  obtain ⟨r, h1, h2⟩ := fin (61 : Nat)
  refine ⟨r, Evn.succ ?_, h2⟩
  by_cases h : ((61 : Nat) : Int) < (l.length : Int)
  ·
   exact Evn.pos h h1
  ·
   exact Evn.neg h h1
 | succ d ih =>
  intro i hd hi hil
  by_cases h : i < l.length
  ·
   by_cases h0 : ((l[i].f1.size : Nat) : Int) > 60
   ·
    exact ⟨true, Evn.succ (Evn.pos o9 (Evn.succ (Evn.pos (by simp; omega) (Evn.pos o9 (Evn.pos o9 (Evn.pos (by rw [rdT l i h]; exact h0) (Evn.ret _))))))), fun h => by cases h⟩
   ·
    obtain ⟨r, h1, h2⟩ := ih (i + 1) o9 o9 o9
    refine ⟨r, Evn.succ (Evn.pos o9 (Evn.succ (Evn.pos (by simp; omega) (Evn.pos o9 (Evn.pos o9 (Evn.neg (by rw [rdT l i h]; exact h0) ?_)))))), h2⟩
    rw [w1 (show i < 61 by omega) o9]; exact h1
  ·
   obtain ⟨r, h1, h2⟩ := fin i
   exact ⟨r, Evn.succ (Evn.neg o9 h1), h2⟩
theorem zjr (a b c : Int) (s : ByteArray) (l : List Lr) : ∃ r, Evn (fun k => zam.f k a b c s l) r ∧ (r = false → l.length ≤ 60 ∧ s.size ≤ 60) := zkb a b c s l 61 0 rfl o9 o9
theorem zea (a b c : Int) (s : ByteArray) (l : List Lr) (hl : l.length < 1000000) : Evn (fun k => zan.f k a b c s l a b c s l) true :=
 Evn.pos rfl (Evn.pos rfl (Evn.pos rfl (Evn.pos rfl (Evn.bind (h := fun _ (t : Bool) => some t) (Evn.of (l.length + 1) fun k hk => same l o9 k o9) (Evn.ret _)))))
theorem zkI (l : List Mb) (hl : l.length < 1000000) : ∀ (d i : Nat), d = l.length - i → i ≤ l.length → Evn (fun k => zaz.l0 k l l (i : Int)) true := by
 intro d
 induction d with
 | zero => exact fun i hd hi => Evn.succ (Evn.neg o9 (Evn.ret _))
 | succ d ih =>
  intro i hd hi
  have h : i < l.length := by omega
  refine Evn.succ (Evn.pos o9 (Evn.pos o9 (Evn.pos o9 (Evn.neg s9 ?_))))
  rw [w1 h o9]; exact ih (i + 1) o9 o9
theorem zjG {l m : List Mb} (hl : l.length < 1000000) (e : l = m) : Evn (fun k => zaz.f k l m) true := by
 subst e
 exact Evn.pos rfl (zkI l hl l.length 0 o9 o9)
theorem zkz (a b : List Mb) (ha : a.length < 1000000) (hb : b.length < 1000000) (i : Nat) (hi : i < a.length) (v : Bool) (hn : Evn (fun k => zaj.l0 k a b (wrap64 ((i : Int) + 1))) v) : ∀ (d j : Nat) (th : Bool), d = b.length - j → j ≤ b.length →
  Evn (fun k => zaj.l1 k a b (i : Int) th (j : Int)) ((th || (b.drop j).any fun x => eqM a[i] x) && v) := by
 intro d
 induction d with
 | zero =>
  intro j th hd hj
  rw [List.drop_eq_nil_of_le o9]
  cases th with
  | true => exact Evn.succ (Evn.neg o9 (Evn.congr (fun k => rfl) (hn.val s9)))
  | false => exact Evn.succ (Evn.neg o9 (Evn.congr (g' := fun _ => some false) (fun k => rfl) ((Evn.ret _).val s9)))
 | succ d ih =>
  intro j th hd hj
  have h : j < b.length := by omega
  rw [List.drop_eq_getElem_cons h]
  cases th with
  | true =>
   refine Evn.succ (Evn.pos o9 (Evn.congr (g' := fun k => zaj.l1 k a b (i : Int) true (wrap64 ((j : Int) + 1))) (fun k => rfl) ?_))
   rw [w1 h o9]
   exact (ih (j + 1) true o9 o9).val s9
  | false =>
   refine Evn.succ (Evn.pos o9 (Evn.congr (g' := fun k => if 0 ≤ (i : Int) then (if (i : Int) < (a.length : Int) then (if 0 ≤ (j : Int) then (zaj.l1 k a b (i : Int) ((((zbz a (i : Int)).f0).toList) == (((zbz b (j : Int)).f0).toList) && (((zbz a (i : Int)).f1) == ((zbz b (j : Int)).f1))) (wrap64 ((j : Int) + 1))) else none) else none) else none) (fun k => rfl) (Evn.pos o9 (Evn.pos o9 (Evn.pos o9 ?_)))))
   rw [w1 h o9, rdM a i hi, rdM b j h]
   refine (ih (j + 1) _ o9 o9).val ?_
   simp only [List.any_cons, eqM, Bool.false_or]
theorem zkd (a b : List Mb) (ha : a.length < 1000000) (hb : b.length < 1000000) : ∀ (d i : Nat), d = a.length - i → i ≤ a.length → Evn (fun k => zaj.l0 k a b (i : Int)) ((a.drop i).all fun m => b.any fun x => eqM m x) := by
 intro d
 induction d with
 | zero =>
  intro i hd hi
  refine Evn.succ (Evn.neg o9 ((Evn.ret _).val ?_))
  rw [List.drop_eq_nil_of_le o9]; rfl
 | succ d ih =>
  intro i hd hi
  have h : i < a.length := by omega
  have hn := ih (i + 1) o9 o9
  rw [← w1 h o9] at hn
  refine Evn.succ (Evn.pos o9 ((zkz a b ha hb i h _ hn b.length 0 false o9 o9).val ?_))
  rw [List.drop_eq_getElem_cons h]
  simp only [List.all_cons, List.drop_zero, Bool.false_or]
open Classical in
theorem zds {a b : List Mb} (ha : a.length < 1000000) (hb : b.length < 1000000) : Evn (fun k => zaj.f k a b) (decide (∀ m ∈ a, m ∈ b)) := by
 refine (zkd a b ha hb a.length 0 o9 o9).val ?_
 rw [Bool.eq_iff_iff]
 simp only [List.drop_zero, List.all_eq_true, decide_eq_true_eq]
 exact forall₂_congr fun m _ => zei b m
theorem zjk : Evn zaE.f true := by
 have h : zaE.f 12 = some true := by kernel_rfl
 have key : ∀ k, zaE.f (12 + k) = some true := fun k => by
  induction k with
  | zero => exact h
  | succ k ih => exact zaE.mono (12 + k) true ih
 exact ⟨12, fun k hk => by obtain ⟨j, rfl⟩ : ∃ j, k = 12 + j := ⟨k - 12, by omega⟩; exact key j⟩
theorem zdx {s : ByteArray} (h : (tag2 s).2 = 0) : s.toList ≠ [63] ∧ word great s = false ∧ (tag2 s).1 ≠ 7 := by
 have h5 : ∃ i, i < 5 ∧ (base i).toList = s.toList := Classical.byContradiction fun hn => by
  rw [zj1 (fun j hj e => hn ⟨j, hj, e⟩)] at h
  cases h
 obtain ⟨i, hi, e⟩ := h5
 obtain rfl : base i = s := toL.1 e
 rcases (by omega : i = 0 ∨ i = 1 ∨ i = 2 ∨ i = 3 ∨ i = 4) with rfl | rfl | rfl | rfl | rfl
 ·
  exact ⟨by rw [base0]; simp, by kernel_rfl, by rw [zdV (i := 0) o9 rfl]; decide⟩
 ·
  exact ⟨by rw [base1]; simp, by kernel_rfl, by rw [zdV (i := 1) o9 rfl]; decide⟩
 ·
  exact ⟨by rw [base2]; simp, by kernel_rfl, by rw [zdV (i := 2) o9 rfl]; decide⟩
 ·
  exact ⟨by rw [base3]; simp, by kernel_rfl, by rw [zdV (i := 3) o9 rfl]; decide⟩
 ·
  exact ⟨by rw [base4]; simp, by kernel_rfl, by rw [zdV (i := 4) o9 rfl]; decide⟩
theorem ziI {s : ByteArray} (h : word great s = true) : s.toList ≠ [63] := fun e => by
 obtain rfl : s = ⟨#[63]⟩ := toL.1 (e.trans (by rw [ByteArray.toList_eq]))
 rw [show word great ⟨#[63]⟩ = false by kernel_rfl] at h
 cases h
theorem zdi (s : ByteArray) : (kd s = 1 ∧ (tag2 s).2 = 0) ∨ (kd s = 2 ∧ (tag2 s).2 ≠ 0 ∧ s.toList = [63]) ∨ (kd s = 3 ∧ (tag2 s).2 ≠ 0 ∧ s.toList ≠ [63] ∧ word great s = true) ∨ (kd s = 0 ∧ (tag2 s).2 ≠ 0 ∧ s.toList ≠ [63] ∧ word great s = false) := by
 unfold kd
 by_cases h1 : (tag2 s).2 = 0
 ·
  rw [if_pos h1]; exact .inl ⟨rfl, h1⟩
 rw [if_neg h1]
 by_cases h2 : s.toList = [63]
 ·
  rw [if_pos h2]; exact .inr (.inl ⟨rfl, h1, h2⟩)
 rw [if_neg h2]
 by_cases h3 : word great s = true
 ·
  rw [if_pos h3]; exact .inr (.inr (.inl ⟨rfl, h1, h2, h3⟩))
 ·
  rw [if_neg h3]; exact .inr (.inr (.inr ⟨rfl, h1, h2, by simpa using h3⟩))
theorem zib (merged : Bool) (l : List Lr) (ty : ByteArray) (lab a : Int) : (lvC merged l ty lab a).length ≤ l.length + 1 := by
 unfold lvC
 split
 ·
  exact zgz _ _ _
 ·
  omega
theorem zjM (merged : Bool) (l : List Lr) (ty : ByteArray) (lab a : Int) (c : ByteArray) (h : hasC l c) : hasC (lvC merged l ty lab a) c := by
 unfold lvC
 split
 ·
  exact (zd9 _ _ _ _).2 (.inl h)
 ·
  exact h
def tellE (lab a b c : Int) (s : ByteArray) : Option (List Lr) → Int × Int × Int × ByteArray × List Lr × Int
 | some l => (a, b, c, s, l, 0)
 | none => (0, 0, 0, (⟨#[]⟩ : ByteArray), [], lab)
theorem zhe {t : List Cl} (ht : TB t) (merged : Bool) (lab a b c : Int) (s : ByteArray) (l : List Lr) (ty : ByteArray) (hl : l.length < 1000000) (hty : ty.size ≤ 9223372036854775807) :
  Evn (fun k => zaF.f k t a b c s l ty lab merged) (tellE lab a b c s (entC t merged lab a s l ty)) := by
 refine Evn.bind (zk7 ht merged lab a b c s l ty hl hty) ((Evn.ret _).val ?_)
 cases entC t merged lab a s l ty <;> rfl
theorem ziW {t : List Cl} (ht : TB t) (merged : Bool) (lab a b c : Int) (s : ByteArray) (l : List Lr) (ty uy : ByteArray) (hl : l.length < 900000) (hty : ty.size ≤ 9223372036854775807) (huy : uy.size ≤ 9223372036854775807) :
  Evn (fun k => zbA.f k t a b c s l ty uy lab merged) (tellE lab a b c s (entC t merged lab a s (lvC merged l ty (wrap64 (-lab)) a) uy)) := by
 have h1 := zib merged l ty (wrap64 (-lab)) a
 refine Evn.bind (zhm t merged (wrap64 (-lab)) a b c s l ty o9 hty) (Evn.bind (zhe ht merged lab a b c s (lvC merged l ty (wrap64 (-lab)) a) uy o9 huy) ((Evn.ret _).val ?_))
 cases entC t merged lab a s (lvC merged l ty (wrap64 (-lab)) a) uy <;> rfl
theorem zgG (l m : List Mb) : ((l.any fun x => !hasM m x) = true) ↔ ¬ ∀ x ∈ l, x ∈ m := by
 rw [List.any_eq_true]
 constructor
 ·
  rintro ⟨x, h1, h2⟩ h
  have := (zei m x).2 (h x h1)
  simp [this] at h2
 ·
  intro h
  obtain ⟨x, hx⟩ := Classical.not_forall.1 h
  obtain ⟨h1, h2⟩ := Classical.not_imp.1 hx
  exact ⟨x, h1, by rw [Bool.not_eq_true', ← Bool.not_eq_true, zei]; exact h2⟩
def restF (k : Nat) (l0 : List Cl) (a1_0 a1_1 a1_2 : Int) (a1_3 : ByteArray) (l1_4 : List Lr) (a2 a3 : ByteArray) (a4 : Int) (a5 : Bool) : Option Bool :=
 (zbA.f k l0 a1_0 a1_1 a1_2 a1_3 l1_4 a2 a3 a4 a5).bind fun bF25 => (if (a1_0 != 7) = true then ((if (true && (bF25.2.2.2.2.2 == a4)) = true then zan.f k bF25.1 bF25.2.1 bF25.2.2.1 bF25.2.2.2.1 bF25.2.2.2.2.1 0 0 0 (⟨#[]⟩ : ByteArray) ([] : List (S35)) else some (false))).bind fun bF28 => ((if ((true && (!((bF25.2.2.2.2.2 == a4) && bF28))) && (bF25.2.2.2.2.2 == 0)) = true then zan.f k bF25.1 bF25.2.1 bF25.2.2.1 bF25.2.2.2.1 bF25.2.2.2.2.1 a1_0 a1_1 a1_2 a1_3 l1_4 else some (false))).bind fun bF30 => some ((true && (((bF25.2.2.2.2.2 == a4) && bF28) || ((bF25.2.2.2.2.2 == 0) && bF30)))) else (zbf.f k l0 a1_0 a1_1 a1_2 a1_3 l1_4 a2 (wrap64 (-a4)) a5).bind fun bF36 => (zax.f k l0 a1_0 a1_1 a1_2 a1_3 l1_4).bind fun bF39 => (zax.f k l0 bF36.1 bF36.2.1 bF36.2.2.1 bF36.2.2.2.1 bF36.2.2.2.2).bind fun bF41 => (zax.f k l0 bF25.1 bF25.2.1 bF25.2.2.1 bF25.2.2.2.1 bF25.2.2.2.2.1).bind fun bF43 => (zaj.f k bF41 bF39).bind fun bF45 => ((if ((!(!bF45)) && (bF25.2.2.2.2.2 == 0)) = true then zaj.f k bF43 bF41 else some (false))).bind fun bF47 => (if ((!bF45) || ((bF25.2.2.2.2.2 == 0) && (!bF47))) = true then none else (zbu.f a3).bind fun bF49 => ((if bF49 = true then zav.f k l0 a3 else some ([]))).bind fun bF51 => ((if bF49 = true then zaj.f k bF51 bF41 else some (false))).bind fun bF53 => ((if (!(bF49 && (!((bF25.2.2.2.2.2 == 0) == bF53)))) = true then zbO.f a3 else some (false))).bind fun bF55 => (if (((bF49 && (!((bF25.2.2.2.2.2 == 0) == bF53))) || (bF55 && (bF25.2.2.2.2.2 != a4))) || ((a3.toList == [63]) && (bF25.2.2.2.2.2 != 0))) = true then none else (if (bF25.2.2.2.2.2 != 0) = true then ((if (true && (bF25.2.2.2.2.2 == a4)) = true then zan.f k bF25.1 bF25.2.1 bF25.2.2.1 bF25.2.2.2.1 bF25.2.2.2.2.1 0 0 0 (⟨#[]⟩ : ByteArray) ([] : List (S35)) else some (false))).bind fun bF57 => some (((true && (bF25.2.2.2.2.2 == a4)) && bF57)) else (zaF.f k l0 bF25.1 bF25.2.1 bF25.2.2.1 bF25.2.2.2.1 bF25.2.2.2.2.1 a3 a4 a5).bind fun bF64 => ((if (((true && (bF64.2.2.2.2.2 == 0)) && (bF64.2.2.2.1.toList == a1_3.toList)) && (bF64.2.1 == a1_1)) = true then zax.f k l0 bF64.1 bF64.2.1 bF64.2.2.1 bF64.2.2.2.1 bF64.2.2.2.2.1 else some ([]))).bind fun bF67 => ((if (((true && (bF64.2.2.2.2.2 == 0)) && (bF64.2.2.2.1.toList == a1_3.toList)) && (bF64.2.1 == a1_1)) = true then zaz.f k bF67 bF43 else some (false))).bind fun bF69 => some (((((true && (bF64.2.2.2.2.2 == 0)) && (bF64.2.2.2.1.toList == a1_3.toList)) && (bF64.2.1 == a1_1)) && bF69))))))
theorem zgY (t : List Cl) (s : ByteArray) {l l' : List Lr} (h : ∀ c, hasC l c → hasC l' c) : ∀ m ∈ shw t s l', m ∈ shw t s l := fun m hm => by
 rw [zif] at hm ⊢
 exact ⟨hm.1, fun c hc => hm.2 c (h c hc)⟩
theorem zku {t : List Cl} (ht : TB t) (a b c : Int) (s : ByteArray) (l : List Lr) (ty uy : ByteArray) (lab : Int) (merged : Bool) (hl : l.length ≤ 60) (hty : ty.size ≤ 60) (huy : uy.size ≤ 60) (hlab : lab ≠ 0) (ha : a ≠ 7) :
  Evn (fun k => restF k t a b c s l ty uy lab merged) true := by
 have hL : lvC merged l ty (wrap64 (-lab)) a = l := if_neg (fun h => ha h.2)
 refine Evn.bind (ziW ht merged lab a b c s l ty uy o9 o9 o9) ?_
 rw [hL]
 have hent : entC t merged lab a s l uy = none ∨ entC t merged lab a s l uy = some l := by
  unfold entC
  by_cases h2 : kd uy = 2
  ·
   rw [if_pos h2]; exact .inr rfl
  rw [if_neg h2]
  by_cases h1 : kd uy = 1
  ·
   rw [if_pos h1]
   by_cases h : a = (tag2 uy).1
   ·
    rw [if_pos h]; exact .inr rfl
   ·
    rw [if_neg h]; exact .inl rfl
  rw [if_neg h1]
  by_cases h3 : kd uy = 3
  ·
   rw [if_pos h3]
   by_cases h6 : a = 6
   ·
    rw [if_pos h6]; exact .inr rfl
   ·
    rw [if_neg h6, if_neg ha]; exact .inl rfl
  ·
   rw [if_neg h3]; exact .inl rfl
 refine Evn.pos (by simpa using ha) ?_
 rcases hent with e | e
 ·
  rw [e]
  refine Evn.bind (Evn.pos (by simp [tellE]) (zea 0 0 0 (⟨#[]⟩ : ByteArray) [] s9)) ?_
  refine Evn.bind (Evn.neg (by simp [tellE]) (Evn.ret false)) ?_
  exact (Evn.ret _).val (by simp [tellE])
 ·
  rw [e]
  have h0 : ((0 : Int) == lab) = false := by simpa using fun h : (0 : Int) = lab => hlab h.symm
  refine Evn.bind (Evn.neg (by simp [tellE, h0]) (Evn.ret false)) ?_
  refine Evn.bind (Evn.pos (by simp [tellE, h0]) (zea a b c s l o9)) ?_
  exact (Evn.ret _).val (by simp [tellE])
open Classical in
theorem zjx {t : List Cl} (ht : TB t) (b c : Int) (s : ByteArray) (l : List Lr) (ty uy : ByteArray) (lab : Int) (merged : Bool) (hl : l.length ≤ 60) (hty : ty.size ≤ 60) (huy : uy.size ≤ 60) (hlab : lab ≠ 0) :
  Evn (fun k => restF k t 7 b c s l ty uy lab merged) true := by
 obtain ⟨L, hL⟩ : ∃ L, L = lvC merged l ty (wrap64 (-lab)) 7 := ⟨_, rfl⟩
 have hLl : L.length ≤ 61 := by have := zib merged l ty (wrap64 (-lab)) 7; rw [hL]; omega
 have hLc : ∀ c, hasC l c → hasC L c := fun c hc => by rw [hL]; exact zjM merged l ty _ _ c hc
 have hc := ziW ht merged lab 7 b c s l ty uy o9 o9 o9
 have hv := zhm t merged (wrap64 (-lab)) 7 b c s l ty o9 o9
 rw [← hL] at hc hv
 have h0 : ((0 : Int) == lab) = false := by simpa using fun h : (0 : Int) = lab => hlab h.symm
 have hl0 : (lab == (0 : Int)) = false := by simpa using hlab
 have hB : ∀ m ∈ shw t s L, m ∈ shw t s l := zgY t s hLc
 have lB := zeI ht s l
 have lM := zeI ht s L
 have hW : Evn (fun k => zaj.f k (shw t s L) (shw t s l)) true := (zds o9 o9).val (by simpa using hB)
 have hcls : zbu.f uy = some (word great uy) := by unfold zbu.f; rw [if_pos o9]
 have hbase : zbO.f uy = some ((tag2 uy).2 == 0) := rfl
 have fin : ∀ (x : Option (List Lr)), entC t merged lab 7 s L uy = x → Evn (fun k => zbA.f k t 7 b c s l ty uy lab merged) (tellE lab 7 b c s x) := fun x e => by rw [← e]; exact hc
 cases hx : entC t merged lab 7 s L uy with
 | none =>
  have hC := fin none hx
  refine Evn.bind hC (Evn.neg s9 (Evn.bind hv (Evn.bind (zcU ht b c s l o9) (Evn.bind (zcU ht b c s L o9) (Evn.bind (Evn.congr (fun k => zhz (t := t) (a := (0 : Int)) d9 k 0 0 (⟨#[]⟩ : ByteArray) []) (Evn.ret ([] : List Mb))) (Evn.bind hW ?_))))))
  refine Evn.bind (Evn.neg (by simp [tellE, hl0]) (Evn.ret false)) (Evn.neg (by simp [tellE, hl0]) (Evn.cbind hcls ?_))
  cases hg : word great uy with
  | true =>
   have hk : kd uy = 3 := by
    rcases zdi uy with h | h | h | h
    ·
     have := (zdx h.2).2.1; rw [hg] at this; cases this
    ·
     exact absurd h.2.2 (ziI hg)
    ·
     exact h.1
    ·
     have := h.2.2.2; rw [hg] at this; cases this
   have hno : ¬ ∀ x ∈ mem t uy, x ∈ shw t s L := by
    unfold entC at hx
    rw [if_neg (by rw [hk]; decide), if_neg (by rw [hk]; decide), if_pos hk, if_neg d9, if_pos rfl] at hx
    by_cases hm : ((mem t uy).any fun x => !hasM (shw t s L) x) = true
    ·
     exact (zgG _ _).1 hm
    ·
     rw [if_neg hm] at hx; cases hx
   have lU := zdW ht uy
   refine Evn.bind (Evn.pos rfl (zcO ht uy)) (Evn.bind (Evn.pos rfl ((zds o9 o9).val (decide_eq_false hno))) ?_)
   have htag : ((tag2 uy).2 == 0) = false := by
    rcases zdi uy with h | h | h | h
    ·
     have := (zdx h.2).2.1; rw [hg] at this; cases this
    all_goals simpa using h.2.1
   have hq : (uy.toList == [63]) = false := by simpa using ziI hg
   refine Evn.bind (Evn.pos (by simp [tellE, hl0]) (Evn.congr (fun k => hbase) (Evn.ret _))) (Evn.neg (by simp [tellE, hl0, htag, hq]) (Evn.pos (by simp [tellE, hlab]) ?_))
   exact Evn.bind (Evn.pos (by simp [tellE]) (zea 0 0 0 (⟨#[]⟩ : ByteArray) [] s9)) ((Evn.ret _).val (by simp [tellE]))
  | false =>
   refine Evn.bind (Evn.neg s9 (Evn.ret [])) (Evn.bind (Evn.neg s9 (Evn.ret false)) (Evn.bind (Evn.pos s9 (Evn.congr (fun k => hbase) (Evn.ret _))) (Evn.neg ?_ (Evn.pos (by simp [tellE, hlab]) ?_))))
   ·
    have hq : (uy.toList == [63]) = false := by
     rcases zdi uy with h | h | h | h
     ·
      simpa using (zdx h.2).1
     ·
      unfold entC at hx
      rw [if_pos h.1] at hx; cases hx
     ·
      simpa using h.2.2.1
     ·
      simpa using h.2.2.1
    simp [tellE, hq]
   ·
    exact Evn.bind (Evn.pos (by simp [tellE]) (zea 0 0 0 (⟨#[]⟩ : ByteArray) [] s9)) ((Evn.ret _).val (by simp [tellE]))
 | some l' =>
  have hC := fin (some l') hx
  have hfacts : l'.length ≤ 62 ∧ (∀ c, hasC L c → hasC l' c) ∧ (kd uy = 2 ∧ l' = L ∨ kd uy = 3 ∧ (∀ x ∈ mem t uy, x ∈ shw t s L) ∧ ∀ c, hasC l' c ↔ hasC L c ∨ uy = c) := by
   unfold entC at hx
   rcases zdi uy with h | h | h | h
   ·
    rw [if_neg (by rw [h.1]; decide), if_pos h.1, if_neg (fun e => (zdx h.2).2.2 e.symm)] at hx; cases hx
   ·
    rw [if_pos h.1] at hx
    obtain rfl := Option.some.inj hx
    exact ⟨by omega, fun c hc => hc, .inl ⟨h.1, rfl⟩⟩
   ·
    rw [if_neg (by rw [h.1]; decide), if_neg (by rw [h.1]; decide), if_pos h.1, if_neg d9, if_pos rfl] at hx
    by_cases hm : ((mem t uy).any fun x => !hasM (shw t s L) x) = true
    ·
     rw [if_pos hm] at hx; cases hx
    ·
     rw [if_neg hm] at hx
     obtain rfl := Option.some.inj hx
     refine ⟨by have := zgz merged L ⟨true, uy, lab⟩; omega, fun c hc => (zd9 _ _ _ _).2 (.inl hc), .inr ⟨h.1, ?_, fun c => zd9 _ _ _ _⟩⟩
     exact Classical.byContradiction fun hn => hm ((zgG _ _).2 hn)
   ·
    rw [if_neg (by rw [h.1]; decide), if_neg (by rw [h.1]; decide), if_neg (by rw [h.1]; decide)] at hx; cases hx
  obtain ⟨hll, hlc, hkk⟩ := hfacts
  have hA : ∀ m ∈ shw t s l', m ∈ shw t s L := zgY t s hlc
  have lA := zeI ht s l'
  have hWA : Evn (fun k => zaj.f k (shw t s l') (shw t s L)) true := (zds o9 o9).val (by simpa using hA)
  obtain ⟨l2, he2, hl2, hs2⟩ : ∃ l2, entC t merged lab 7 s l' uy = some l2 ∧ l2.length ≤ 63 ∧ shw t s l2 = shw t s l' := by
   unfold entC
   rcases hkk with ⟨hk, e⟩ | ⟨hk, hm, hcc⟩
   ·
    rw [if_pos hk]; exact ⟨l', rfl, by omega, rfl⟩
   ·
    rw [if_neg (by rw [hk]; decide), if_neg (by rw [hk]; decide), if_pos hk, if_neg d9, if_pos rfl]
    have hm2 : ¬ ((mem t uy).any fun x => !hasM (shw t s l') x) = true := fun h => (zgG _ _).1 h fun x hx' => by
     have h1 := hm x hx'
     rw [zif] at h1 ⊢
     exact ⟨h1.1, fun c hc => ((hcc c).1 hc).elim (h1.2 c) (fun e => e ▸ hx')⟩
    rw [if_neg hm2]
    refine ⟨_, rfl, by have := zgz merged l' ⟨true, uy, lab⟩; omega, zie t s fun c => ?_⟩
    rw [zd9]
    exact ⟨fun h => h.elim id (fun e => (hcc c).2 (.inr e)), .inl⟩
  have hE := zhe ht merged lab 7 b c s l' uy o9 o9
  rw [he2] at hE
  refine Evn.bind hC (Evn.neg s9 (Evn.bind hv (Evn.bind (zcU ht b c s l o9) (Evn.bind (zcU ht b c s L o9) (Evn.bind (zcU ht b c s l' o9) (Evn.bind hW ?_))))))
  refine Evn.bind (Evn.pos (by simp [tellE]) hWA) (Evn.neg (by simp [tellE]) (Evn.cbind hcls ?_))
  have last : Evn (fun k => (zaF.f k t 7 b c s l' uy lab merged).bind fun bF110 => ((if (((true && (bF110.2.2.2.2.2 == 0)) && (bF110.2.2.2.1.toList == s.toList)) && (bF110.2.1 == b)) = true then zax.f k t bF110.1 bF110.2.1 bF110.2.2.1 bF110.2.2.2.1 bF110.2.2.2.2.1 else some ([]))).bind fun bF113 => ((if (((true && (bF110.2.2.2.2.2 == 0)) && (bF110.2.2.2.1.toList == s.toList)) && (bF110.2.1 == b)) = true then zaz.f k bF113 (shw t s l') else some (false))).bind fun bF115 => some (((((true && (bF110.2.2.2.2.2 == 0)) && (bF110.2.2.2.1.toList == s.toList)) && (bF110.2.1 == b)) && bF115))) true := by
   have lA2 := zeI ht s l2
   refine Evn.bind hE (Evn.bind (Evn.pos (by simp [tellE]) (zcU ht b c s l2 o9)) (Evn.bind (Evn.pos (by simp [tellE]) (zjG o9 hs2)) ((Evn.ret _).val (by simp [tellE]))))
  cases hg : word great uy with
  | true =>
   have hk : kd uy = 3 ∧ (tag2 uy).2 ≠ 0 := by
    rcases zdi uy with h | h | h | h
    ·
     have := (zdx h.2).2.1; rw [hg] at this; cases this
    ·
     exact absurd h.2.2 (ziI hg)
    ·
     exact ⟨h.1, h.2.1⟩
    ·
     have := h.2.2.2; rw [hg] at this; cases this
   have hm : ∀ x ∈ mem t uy, x ∈ shw t s L := by
    rcases hkk with h | h
    ·
     rw [hk.1] at h; exact absurd h.1 d9
    ·
     exact h.2.1
   have lU := zdW ht uy
   have htag : ((tag2 uy).2 == 0) = false := by simpa using hk.2
   refine Evn.bind (Evn.pos rfl (zcO ht uy)) (Evn.bind (Evn.pos rfl ((zds o9 o9).val (decide_eq_true hm))) ?_)
   refine Evn.bind (Evn.pos (by simp [tellE]) (Evn.congr (fun k => hbase) (Evn.ret _))) (Evn.neg (by simp [tellE, htag]) (Evn.neg (by simp [tellE]) ?_))
   exact last
  | false =>
   have htag : ((tag2 uy).2 == 0) = false := by
    rcases zdi uy with h | h | h | h
    ·
     rcases hkk with h' | h' <;> rw [h.1] at h' <;> exact absurd h'.1 d9
    all_goals simpa using h.2.1
   refine Evn.bind (Evn.neg s9 (Evn.ret [])) (Evn.bind (Evn.neg s9 (Evn.ret false)) (Evn.bind (Evn.pos s9 (Evn.congr (fun k => hbase) (Evn.ret _))) (Evn.neg (by simp [tellE, htag]) (Evn.neg (by simp [tellE]) ?_))))
   exact last
theorem CoerceShrinks : chaperonlaw16_CoerceShrinks.Pure := by
 intro t x ty uy lab merged _ _ _ _ _ _
 obtain ⟨a, b, c, s, l⟩ := x
 refine Evn.ex (Evn.bind zjk ?_)
 obtain ⟨q1, h1, h2⟩ := zjB t
 refine Evn.bind h1 ?_
 cases q1 with
 | true => exact Evn.bind (Evn.neg s9 (Evn.ret false)) (Evn.pos s9 (Evn.ret _))
 | false =>
  have ht := (h2 rfl).toTB
  obtain ⟨q2, h3, h4⟩ := zjr a b c s l
  refine Evn.bind (Evn.pos s9 h3) ?_
  cases q2 with
  | true => exact Evn.pos s9 (Evn.ret _)
  | false =>
   obtain ⟨hl, hs⟩ := h4 rfl
   by_cases hc : ((((false || false) || (decide ((ty.size : Int) > 60))) || (decide ((uy.size : Int) > 60))) || (lab == 0)) = true
   ·
    exact Evn.pos hc (Evn.ret _)
   refine Evn.neg hc ?_
   simp only [Bool.or_self, Bool.false_or, Bool.or_eq_true, decide_eq_true_eq, beq_iff_eq, not_or] at hc
   obtain ⟨⟨hty, huy⟩, hlab⟩ := hc
   have main : ∀ l', l'.length ≤ 60 → Evn (fun k => restF k t a b c s l' ty uy lab merged) true := fun l' hl' => by
    by_cases ha : a = 7
    ·
     subst ha
     exact zjx ht b c s l' ty uy lab merged hl' o9 o9 hlab
    ·
     exact zku ht a b c s l' ty uy lab merged hl' o9 o9 hlab ha
   cases merged with
   | true =>
    have hn : zbH.f a b c s l = some (a, b, c, s, norm fL l) := by
     unfold zbH.f
     rw [zi4 l o9]; rfl
    exact Evn.bind (a := (a, b, c, s, norm fL l)) (Evn.pos rfl (Evn.cbind hn (Evn.ret _))) (main (norm fL l) (Nat.le_trans (zg3 fL l) hl))
   | false => exact Evn.bind (a := (a, b, c, s, l)) (Evn.neg s9 (Evn.ret _)) (main l hl)
end Go.Proofs.Ytinkbljjpafadaa.Pure
end
