/- Parts of the proof of one statement, packed: what the program's functions compute. No conditions. -/
import Derived.Test.YtgcfmllgomikoaaDoorKTA2
import Derived.Test.YtgcfmllgomikoaaDoorKTA4
import Derived.Test.YtgcfmllgomikoaaDoorKTA3
set_option linter.unusedSimpArgs false
set_option linter.unusedVariables false
set_option maxRecDepth 100000
set_option maxHeartbeats 8000000
section
namespace Go.Proofs.YtgcfmllgomikoaaDoor.Pure
open Go.RowKit Go.Proofs.YtgcfmllgomikoaaDoor.PAll Go.Proofs.YtgcfmllgomikoaaDoorW.PrintWords Go.Proofs.YtgcfmllgomikoaaDoorW.PrintLast Go.Proofs.YtgcfmllgomikoaaDoorEv Go.Proofs.YtgcfmllgomikoaaDoorTab Go.Proofs.YtgcfmllgomikoaaDoorWords
abbrev Cl := S45
abbrev Mb := S42
abbrev Vr := S35
abbrev Sg := S26
theorem w1 {i n : Nat} (h : i < n) (hn : n < 4398046511104) : wrap64 ((i : Int) + 1) = ((i + 1 : Nat) : Int) := by unfold wrap64; omega
theorem rdV (l : List (S35)) (i : Nat) (h : i < l.length) : zaE l (i : Int) = l[i] := by
 unfold zaE
 rw [Int.toNat_natCast, List.getD_eq_getElem?_getD, List.getElem?_eq_getElem h]; rfl
theorem rdS (l : List (S26)) (i : Nat) (h : i < l.length) : zaF l (i : Int) = l[i] := by
 unfold zaF
 rw [Int.toNat_natCast, List.getD_eq_getElem?_getD, List.getElem?_eq_getElem h]; rfl
theorem rdM (l : List Mb) (i : Nat) (h : i < l.length) : zaI l (i : Int) = l[i] := by
 unfold zaI
 rw [Int.toNat_natCast, List.getD_eq_getElem?_getD, List.getElem?_eq_getElem h]; rfl
structure TB (t : List Cl) : Prop where
 len : t.length ≤ 9
 fs : ∀ c ∈ t, c.f2.length ≤ 7
 ms : ∀ c ∈ t, c.f3.length ≤ 7
 ps : ∀ c ∈ t, ∀ m ∈ c.f3, m.f1.length ≤ 10
theorem zcC (t : List Cl) : ∀ (k : Nat) (pre : List Nat) (nm : ByteArray), (lineP t k pre nm).length ≤ k
 | 0, _, _ => by simp [lineP]
 | k + 1, pre, nm => by
  unfold lineP
  split
  ·
   simp
  ·
   split
   ·
    simp
   ·
    have := zcC t k
    simp only [List.length_cons]
    have h1 := this (pre ++ [(idxC nm t 0).toNat]) (clsAt t (idxC nm t 0).toNat).f1
    omega
theorem zc6 (t : List Cl) (p : Nat) (h : p < t.length) : clsAt t p ∈ t := by
 unfold clsAt zab
 rw [Int.toNat_natCast, List.getD_eq_getElem?_getD, List.getElem?_eq_getElem h]
 exact List.getElem_mem h
theorem zeZ {α : Type} (f : Nat → List α) (b : Nat) : ∀ (l : List Nat), (∀ p ∈ l, (f p).length ≤ b) → (l.flatMap f).length ≤ l.length * b
 | [], _ => by simp
 | x :: r, h => by
  have h1 := zeZ f b r (fun p hp => h p (List.mem_cons_of_mem _ hp))
  have h2 := h x List.mem_cons_self
  simp only [List.flatMap_cons, List.length_append, List.length_cons]
  rw [Nat.succ_mul]; omega
section
variable {t : List Cl} (ht : TB t)
include ht
theorem TB.line (c : ByteArray) : (lineL t c).length ≤ 10 := by
 have := zcC t (t.length + 1) [] c
 have h := ht.len
 unfold lineL; omega
theorem TB.fields (c : ByteArray) : (za1 t c).length ≤ 70 := by
 have h1 := ht.line c
 have h2 := zeZ (fun p => (clsAt t p).f2) 7 (lineL t c).reverse (fun p hp => ht.fs _ (zc6 t p (zbQ t _ _ _ _ (List.mem_reverse.1 hp))))
 rw [List.length_reverse] at h2
 exact Nat.le_trans h2 o9
theorem TB.all (c : ByteArray) : zaC.all t c ≤ 70 := by
 have h1 := ht.line c
 have h2 := zeZ (fun p => (clsAt t p).f3) 7 (lineL t c).reverse (fun p hp => ht.ms _ (zc6 t p (zbQ t _ _ _ _ (List.mem_reverse.1 hp))))
 rw [List.length_reverse] at h2
 exact Nat.le_trans h2 o9
theorem TB.small : zaC.small t = true := by
 unfold zaC.small
 have h := ht.len
 simp only [Bool.and_eq_true, decide_eq_true_eq, List.all_eq_true]
 exact ⟨by omega, fun x hx => ⟨by have := ht.ms x hx; omega, fun m hm => by have := ht.ps x hx m hm; omega⟩⟩
end
theorem zeN (out : List (S26)) (m : S26) : (putS out m).length ≤ out.length + 1 := by
 unfold putS
 split <;> simp
theorem zfQ : ∀ (l out : List (S26)), (l.foldl putS out).length ≤ out.length + l.length
 | [], out => by simp
 | m :: r, out => by
  have h1 := zfQ r (putS out m)
  have h2 := zeN out m
  simp only [List.foldl_cons, List.length_cons]; omega
theorem TB.meths {t : List Cl} (ht : TB t) (c : ByteArray) : (zbE t c).length ≤ 70 := by
 have h1 := zfQ ((lineL t c).reverse.flatMap fun p => (clsAt t p).f3) []
 have h2 := ht.all c
 unfold zaC.all at h2
 unfold zbE ze6
 simp only [List.length_nil] at h1; omega
def mem (t : List Cl) (c : ByteArray) : List Mb := (za1 t c).map (fun v => ⟨v.f0, -1⟩) ++ (zbE t c).map (fun m => ⟨m.f0, (m.f1.length : Int)⟩)
theorem zhy (o : List Mb) (l : List (S26)) (hl : l.length ≤ 70) : ∀ (d i : Nat) (x : List Mb), d = l.length - i → i ≤ l.length → x.length ≤ 70 + i → Evn (fun k => zaq.l1 k x l (l.length : Int) (i : Int)) (x ++ (l.drop i).map (fun m => ⟨m.f0, (m.f1.length : Int)⟩)) := by
 intro d
 induction d with
 | zero =>
  intro i x hd hi hx
  refine Evn.succ (Evn.neg o9 ((Evn.ret _).val ?_))
  rw [List.drop_eq_nil_of_le o9]; simp
 | succ d ih =>
  intro i x hd hi hx
  have h : i < l.length := by omega
  rw [List.drop_eq_getElem_cons h]
  refine Evn.succ (Evn.pos o9 (Evn.pos o9 (Evn.pos o9 (Evn.pos o9 ?_))))
  rw [rdS l i h, w1 h o9]
  refine (ih (i + 1) (x ++ [⟨l[i].f0, (l[i].f1.length : Int)⟩]) o9 o9 (by simp; omega)).val ?_
  simp only [List.append_assoc, List.map_cons, List.cons_append, List.nil_append]
theorem zhv (t : List Cl) (ht : TB t) (c : ByteArray) (l : List (S35)) (hl : l.length ≤ 70) : ∀ (d i : Nat) (x : List Mb), d = l.length - i → i ≤ l.length → x.length ≤ i → Evn (fun k => zaq.l0 k t c x l (l.length : Int) (i : Int)) (x ++ (l.drop i).map (fun v => ⟨v.f0, -1⟩) ++ (zbE t c).map (fun m => ⟨m.f0, (m.f1.length : Int)⟩)) := by
 intro d
 induction d with
 | zero =>
  intro i x hd hi hx
  refine Evn.succ (Evn.neg o9 (Evn.cbind (a := zaC.f t c) (v := zbE t c) ?_ ?_))
  ·
   unfold zaC.f
   rw [if_pos ⟨ht.small, by have := ht.all c; omega⟩]
  ·
   refine (zhy [] (zbE t c) (ht.meths c) _ 0 x rfl o9 o9).val ?_
   rw [List.drop_eq_nil_of_le (show l.length ≤ i by omega)]; simp
 | succ d ih =>
  intro i x hd hi hx
  have h : i < l.length := by omega
  rw [List.drop_eq_getElem_cons h]
  refine Evn.succ (Evn.pos o9 (Evn.pos o9 (Evn.pos o9 (Evn.pos o9 ?_))))
  rw [rdV l i h, w1 h o9]
  refine (ih (i + 1) (x ++ [⟨l[i].f0, -1⟩]) o9 o9 (by simp; omega)).val ?_
  simp only [List.append_assoc, List.map_cons, List.cons_append, List.nil_append]
theorem zdo {t : List Cl} (ht : TB t) (c : ByteArray) : Evn (fun k => zaq.f k t c) (mem t c) := by
 refine Evn.cbind (a := zbl.f t c) (v := za1 t c) ?_ ?_
 ·
  unfold zbl.f
  rw [if_pos ⟨by have := ht.len; omega, by have := ht.fields c; omega⟩]
 ·
  refine (zhv t ht c (za1 t c) (ht.fields c) _ 0 [] rfl o9 s9).val ?_
  simp [mem]
theorem zfz {t : List Cl} (ht : TB t) (c : ByteArray) : (mem t c).length ≤ 140 := by
 have h1 := ht.fields c
 have h2 := ht.meths c
 simp only [mem, List.length_append, List.length_map]; omega
theorem rdC (l : List Cl) (i : Nat) (h : i < l.length) : zab l (i : Int) = l[i] := by
 unfold zab
 rw [Int.toNat_natCast, List.getD_eq_getElem?_getD, List.getElem?_eq_getElem h]; rfl
theorem zgp (l : List Vr) (hl : l.length ≤ 1000) : ∀ (d i : Nat), d = l.length - i → i ≤ l.length → (∀ j, j < i → ∀ h : j < l.length, l[j].f0.size ≤ 30 ∧ l[j].f1.size ≤ 30) →
  ∃ b, Evn (fun k => zao.l0 k l (i : Int)) b ∧ (b = false → ∀ v ∈ l, v.f0.size ≤ 30 ∧ v.f1.size ≤ 30) := by
 intro d
 induction d with
 | zero =>
  intro i hd hi hb
  refine ⟨false, Evn.succ (Evn.neg o9 (Evn.ret _)), fun _ x hx => ?_⟩
  obtain ⟨j, hj, rfl⟩ := List.getElem_of_mem hx
  exact hb j o9 hj
 | succ d ih =>
  intro i hd hi hb
  have h : i < l.length := by omega
  by_cases h0 : ((l[i].f0.size : Nat) : Int) > 30
  ·
   exact ⟨true, Evn.succ (Evn.pos o9 (Evn.pos o9 (Evn.pos (by rw [rdV l i h]; exact h0) (Evn.ret _)))), fun h => by cases h⟩
  by_cases h1 : ((l[i].f1.size : Nat) : Int) > 30
  ·
   exact ⟨true, Evn.succ (Evn.pos o9 (Evn.pos o9 (Evn.neg (by rw [rdV l i h]; exact h0) (Evn.pos (by rw [rdV l i h]; exact h1) (Evn.ret _))))), fun h => by cases h⟩
  obtain ⟨b, h3, h4⟩ := ih (i + 1) o9 o9 fun j hj hjl => by
   rcases Nat.lt_or_ge j i with h3 | h3
   ·
    exact hb j h3 hjl
   ·
    obtain rfl : j = i := by omega
    omega
  refine ⟨b, Evn.succ (Evn.pos o9 (Evn.pos o9 (Evn.neg (by rw [rdV l i h]; exact h0) (Evn.neg (by rw [rdV l i h]; exact h1) ?_)))), h4⟩
  rw [w1 h o9]; exact h3
theorem zea (l : List Vr) (hl : l.length ≤ 1000) : ∃ b, Evn (fun k => zao.f k l) b ∧ (b = false → ∀ v ∈ l, v.f0.size ≤ 30 ∧ v.f1.size ≤ 30) := zgp l hl l.length 0 o9 o9 fun j hj => by omega
def okM (m : Sg) : Prop := m.f0.size ≤ 30 ∧ m.f2.size ≤ 30 ∧ m.f1.length ≤ 10 ∧ ∀ v ∈ m.f1, v.f0.size ≤ 30 ∧ v.f1.size ≤ 30
def okC (c : Cl) : Prop := c.f0.size ≤ 30 ∧ c.f1.size ≤ 30 ∧ c.f2.length ≤ 7 ∧ c.f3.length ≤ 7 ∧ (∀ v ∈ c.f2, v.f0.size ≤ 30 ∧ v.f1.size ≤ 30) ∧ ∀ m ∈ c.f3, okM m
theorem ziV (t : List Cl) (i : Nat) (b' : Bool) (hn : Evn (fun k => zac.l0 k t (wrap64 ((i : Int) + 1))) b') (n s : ByteArray) (fs : List Vr) (ms : List Sg) (hm : ms.length ≤ 7) : ∀ (d j : Nat), d = ms.length - j → j ≤ ms.length → (∀ q, q < j → ∀ h : q < ms.length, okM ms[q]) →
  ∃ b, Evn (fun k => zac.l1 k t (i : Int) (j : Int) n s fs ms) b ∧ (b = false → b' = false ∧ ∀ m ∈ ms, okM m) := by
 intro d
 induction d with
 | zero =>
  intro j hd hj hb
  refine ⟨b', Evn.succ (Evn.neg o9 hn), fun e => ⟨e, fun x hx => ?_⟩⟩
  obtain ⟨q, hq, rfl⟩ := List.getElem_of_mem hx
  exact hb q o9 hq
 | succ d ih =>
  intro j hd hj hb
  have h : j < ms.length := by omega
  by_cases h0 : ((ms[j].f0.size : Nat) : Int) > 30
  ·
   exact ⟨true, Evn.succ (Evn.pos o9 (Evn.pos o9 (Evn.pos (by rw [rdS ms j h]; exact h0) (Evn.ret _)))), fun h => by cases h⟩
  by_cases h1 : ((ms[j].f2.size : Nat) : Int) > 30
  ·
   exact ⟨true, Evn.succ (Evn.pos o9 (Evn.pos o9 (Evn.neg (by rw [rdS ms j h]; exact h0) (Evn.pos (by rw [rdS ms j h]; exact h1) (Evn.ret _))))), fun h => by cases h⟩
  by_cases h2 : ((ms[j].f1.length : Nat) : Int) > 10
  ·
   exact ⟨true, Evn.succ (Evn.pos o9 (Evn.pos o9 (Evn.neg (by rw [rdS ms j h]; exact h0) (Evn.neg (by rw [rdS ms j h]; exact h1) (Evn.pos (by rw [rdS ms j h]; exact h2) (Evn.ret _)))))), fun h => by cases h⟩
  obtain ⟨v, h3, h4⟩ := zea ms[j].f1 o9
  rw [← rdS ms j h] at h3
  cases v with
  | true => exact ⟨true, Evn.succ (Evn.pos o9 (Evn.pos o9 (Evn.neg (by rw [rdS ms j h]; exact h0) (Evn.neg (by rw [rdS ms j h]; exact h1) (Evn.neg (by rw [rdS ms j h]; exact h2) (Evn.bind h3 (Evn.pos rfl (Evn.ret _)))))))), fun h => by cases h⟩
  | false =>
   obtain ⟨b, h5, h6⟩ := ih (j + 1) o9 o9 fun q hq hql => by
    rcases Nat.lt_or_ge q j with h3 | h3
    ·
     exact hb q h3 hql
    ·
     obtain rfl : q = j := by omega
     exact ⟨by omega, by omega, by omega, h4 rfl⟩
   refine ⟨b, Evn.succ (Evn.pos o9 (Evn.pos o9 (Evn.neg (by rw [rdS ms j h]; exact h0) (Evn.neg (by rw [rdS ms j h]; exact h1) (Evn.neg (by rw [rdS ms j h]; exact h2) (Evn.bind h3 (Evn.neg s9 ?_))))))), h6⟩
   rw [w1 h o9]; exact h5
theorem zhY (t : List Cl) : ∀ (d i : Nat), d = 10 - i → i ≤ 10 → i ≤ t.length →
  ∃ b, Evn (fun k => zac.l0 k t (i : Int)) b ∧ (b = false → t.length ≤ 9 ∧ ∀ j, i ≤ j → ∀ h : j < t.length, okC t[j]) := by
 intro d
 induction d with
 | zero =>
  intro i hd hi hil
  obtain rfl : i = 10 := by omega
  by_cases h : (10 : Int) < (t.length : Int)
  ·
   refine ⟨true, Evn.succ (Evn.pos h (Evn.succ (Evn.congr (g' := fun _ => some (decide ((t.length : Int) > 9))) (fun k => rfl) ((Evn.ret _).val ?_)))), fun h => by cases h⟩
   simp; omega
  ·
   refine ⟨true, Evn.succ (Evn.neg h (Evn.succ (Evn.congr (g' := fun _ => some (decide ((t.length : Int) > 9))) (fun k => rfl) ((Evn.ret _).val ?_)))), fun h => by cases h⟩
   simp; omega
 | succ d ih =>
  intro i hd hi hil
  by_cases h : i < t.length
  ·
   have hs : ∀ {b : Bool}, Evn (fun k => if (0 : Int) ≤ (i : Int) then (if (i : Int) < (t.length : Int) then (if (((zab t (i : Int)).f0).size : Int) > 30 then (zac.j2 k t (i : Int) true ((zab t (i : Int)).f0) ((zab t (i : Int)).f1) ((zab t (i : Int)).f2) ((zab t (i : Int)).f3)) else (if (((zab t (i : Int)).f1).size : Int) > 30 then (zac.j2 k t (i : Int) true ((zab t (i : Int)).f0) ((zab t (i : Int)).f1) ((zab t (i : Int)).f2) ((zab t (i : Int)).f3)) else (if (((zab t (i : Int)).f2).length : Int) > 7 then (zac.j2 k t (i : Int) true ((zab t (i : Int)).f0) ((zab t (i : Int)).f1) ((zab t (i : Int)).f2) ((zab t (i : Int)).f3)) else (if (((zab t (i : Int)).f3).length : Int) > 7 then (zac.j2 k t (i : Int) true ((zab t (i : Int)).f0) ((zab t (i : Int)).f1) ((zab t (i : Int)).f2) ((zab t (i : Int)).f3)) else ((zao.f k ((zab t (i : Int)).f2)).bind fun t265 => (zac.j2 k t (i : Int) t265 ((zab t (i : Int)).f0) ((zab t (i : Int)).f1) ((zab t (i : Int)).f2) ((zab t (i : Int)).f3))))))) else (none)) else (none)) b →
     Evn (fun k => zac.l0 k t (i : Int)) b := fun hh => Evn.succ (Evn.pos o9 (Evn.succ (Evn.pos (by simp; omega) hh)))
   have hj : ∀ (n s : ByteArray) (fs : List Vr) (ms : List Sg), Evn (fun k => zac.j2 k t (i : Int) true n s fs ms) true := fun n s fs ms => Evn.succ (Evn.congr (g' := fun _ => some true) (fun k => rfl) (Evn.ret _))
   rw [rdC t i h] at hs
   by_cases h0 : ((t[i].f0.size : Nat) : Int) > 30
   ·
    exact ⟨true, hs (Evn.pos o9 (Evn.pos o9 (Evn.pos h0 (hj _ _ _ _)))), fun h => by cases h⟩
   by_cases h1 : ((t[i].f1.size : Nat) : Int) > 30
   ·
    exact ⟨true, hs (Evn.pos o9 (Evn.pos o9 (Evn.neg h0 (Evn.pos h1 (hj _ _ _ _))))), fun h => by cases h⟩
   by_cases h2 : ((t[i].f2.length : Nat) : Int) > 7
   ·
    exact ⟨true, hs (Evn.pos o9 (Evn.pos o9 (Evn.neg h0 (Evn.neg h1 (Evn.pos h2 (hj _ _ _ _)))))), fun h => by cases h⟩
   by_cases h3 : ((t[i].f3.length : Nat) : Int) > 7
   ·
    exact ⟨true, hs (Evn.pos o9 (Evn.pos o9 (Evn.neg h0 (Evn.neg h1 (Evn.neg h2 (Evn.pos h3 (hj _ _ _ _))))))), fun h => by cases h⟩
   obtain ⟨v, h4, h5⟩ := zea t[i].f2 o9
   cases v with
   | true => exact ⟨true, hs (Evn.pos o9 (Evn.pos o9 (Evn.neg h0 (Evn.neg h1 (Evn.neg h2 (Evn.neg h3 (Evn.bind h4 (hj _ _ _ _)))))))), fun h => by cases h⟩
   | false =>
    obtain ⟨b', h6, h7⟩ := ih (i + 1) o9 o9 o9
    rw [← w1 (show i < 10 by omega) o9] at h6
    obtain ⟨b, h8, h9⟩ := ziV t i b' h6 t[i].f0 t[i].f1 t[i].f2 t[i].f3 o9 t[i].f3.length 0 o9 o9 (fun q hq => by omega)
    refine ⟨b, hs (Evn.pos o9 (Evn.pos o9 (Evn.neg h0 (Evn.neg h1 (Evn.neg h2 (Evn.neg h3 (Evn.bind h4 (Evn.succ (Evn.congr (fun k => rfl) h8))))))))), fun e => ?_⟩
    obtain ⟨e1, e2⟩ := h9 e
    obtain ⟨e3, e4⟩ := h7 e1
    refine ⟨e3, fun j hj hjl => ?_⟩
    rcases Nat.eq_or_lt_of_le hj with rfl | hj
    ·
     exact ⟨by omega, by omega, by omega, by omega, h5 rfl, e2⟩
    ·
     exact e4 j hj hjl
  ·
   refine ⟨decide ((t.length : Int) > 9), Evn.succ (Evn.neg o9 (Evn.succ (Evn.congr (fun k => rfl) (Evn.ret _)))), fun e => ⟨by have := of_decide_eq_false e; omega, fun j hj hjl => by omega⟩⟩
structure TS (t : List Cl) : Prop extends TB t where
 ok : ∀ c ∈ t, okC c
theorem zhl (t : List Cl) : ∃ b, Evn (fun k => zac.f k t) b ∧ (b = false → TS t) := by
 obtain ⟨b, h1, h2⟩ := zhY t 10 0 rfl o9 o9
 refine ⟨b, h1, fun e => ?_⟩
 obtain ⟨h3, h4⟩ := h2 e
 have h5 : ∀ c ∈ t, okC c := fun c hc => by
  obtain ⟨j, hj, rfl⟩ := List.getElem_of_mem hc
  exact h4 j o9 hj
 exact { len := h3, fs := fun c hc => (h5 c hc).2.2.1, ms := fun c hc => (h5 c hc).2.2.2.1, ps := fun c hc m hm => ((h5 c hc).2.2.2.2.2 m hm).2.2.1, ok := h5 }
theorem bl {a b : ByteArray} (h : a.toList = b.toList) : a = b := toList_inj h
theorem bl0 {a : ByteArray} (h : a.toList = []) : a = ⟨#[]⟩ := toList_inj (h.trans (show ([] : List UInt8) = (⟨#[]⟩ : ByteArray).toList by kernel_rfl))
structure Good (t : List Cl) : Prop where
 siz : ∀ i, i < t.length → zd1 t i = 0
 lin : ∀ i, i < t.length → zdQ t i = 0
 own : ∀ i, i < t.length → ownF t (mem t (clsAt t i).f1) i = 0
theorem zep (f : Nat → Int) : ∀ l : List Nat, scanL f l = none → ∀ i ∈ l, f i = 0
 | [], _, i, hi => by cases hi
 | x :: r, h, i, hi => by
  unfold scanL at h
  by_cases hx : f x = 0
  ·
   rw [if_pos hx] at h
   rcases List.mem_cons.1 hi with rfl | hi
   ·
    exact hx
   ·
    exact zep f r h i hi
  ·
   rw [if_neg hx] at h; cases h
theorem zen (f : Nat → Int) : ∀ (l : List Nat) (i : Nat), scanL f l = some i → ¬ f i = 0
 | [], i, h => by cases h
 | x :: r, i, h => by
  unfold scanL at h
  by_cases hx : f x = 0
  ·
   rw [if_pos hx] at h; exact zen f r i h
  ·
   rw [if_neg hx] at h; cases h; exact hx
theorem zfI (t : List Cl) (mb : ByteArray → List Mb) : ∀ ks : List Nat, (zcl t mb ks).1 = 0 → ∀ k ∈ ks, ∀ i, i < t.length → lookF t mb k i = 0
 | [], _, k, hk => by cases hk
 | k0 :: r, h, k, hk => by
  unfold zcl at h
  cases hs : scanL (lookF t mb k0) (List.range t.length) with
  | some j => rw [hs] at h; exact absurd h (zen _ _ _ hs)
  | none =>
   rw [hs] at h
   rcases List.mem_cons.1 hk with rfl | hk
   ·
    exact fun i hi => zep _ _ hs i (List.mem_range.2 hi)
   ·
    exact zfI t mb r h k hk
theorem ziv {t : List Cl} (h : (zb2 t (mem t)).1 = 0) : Good t := by
 unfold zb2 at h
 by_cases h40 : 40 < t.length
 ·
  rw [if_pos h40] at h; exact absurd h d9
 ·
  rw [if_neg h40] at h
  have h1 := zfI t (mem t) [0, 1, 2] h
  exact ⟨fun i hi => h1 0 s9 i hi, fun i hi => h1 1 s9 i hi, fun i hi => h1 2 s9 i hi⟩
theorem ix_le (s : ByteArray) : ∀ (l : List Cl) (i j : Nat), j < l.length → (clsAt l j).f0 = s → 0 ≤ idxC s l i ∧ idxC s l i ≤ ((i + j : Nat) : Int)
 | [], i, j, h, _ => by simp at h
 | x :: r, i, 0, _, h => by
  have hx : x.f0 = s := h
  unfold idxC
  rw [if_pos (by rw [hx])]
  omega
 | x :: r, i, j + 1, hj, h => by
  rw [zek] at h
  unfold idxC
  by_cases hx : x.f0.toList = s.toList
  ·
   rw [if_pos hx]; omega
  ·
   rw [if_neg hx]
   have := ix_le s r (i + 1) j (by simpa using hj) h
   omega
section
variable {t : List Cl} (g : Good t)
include g
theorem Good.grt (i : Nat) (hi : i < t.length) : word great (clsAt t i).f0 = true := by
 have h := g.siz i hi
 unfold zd1 at h
 cases hw : word great (clsAt t i).f0 with
 | true => rfl
 | false => rw [if_pos hw] at h; exact absurd h d9
theorem Good.first (i : Nat) (hi : i < t.length) : idxC (clsAt t i).f0 t 0 = (i : Int) := by
 have h := g.siz i hi
 unfold zd1 at h
 rw [if_neg (by rw [g.grt i hi]; decide)] at h
 have h1 := ix_le (clsAt t i).f0 t 0 i hi rfl
 by_cases h2 : at1 t (clsAt t i).f0 < (i : Int)
 ·
  rw [if_pos h2] at h; exact absurd h d9
 ·
  unfold at1 at h2
  rw [if_neg o9] at h2
  omega
theorem Good.ne (i : Nat) (hi : i < t.length) : (clsAt t i).f0 ≠ ⟨#[]⟩ := fun e => by
 have h := g.grt i hi
 rw [e] at h
 unfold word at h
 exact absurd h d9
theorem Good.none_ : idxC ⟨#[]⟩ t 0 < 0 := by
 refine Classical.byContradiction fun h => ?_
 obtain ⟨h1, h2, _⟩ := zbX ⟨#[]⟩ t h
 exact g.ne _ h1 (bl h2)
end
def up (t : List Cl) (i : Nat) : Option Nat := if idxC (clsAt t i).f1 t 0 < 0 then none else some (idxC (clsAt t i).f1 t 0).toNat
theorem zcf {t : List Cl} {i j : Nat} (h : up t i = some j) : j < t.length ∧ (clsAt t i).f1 = (clsAt t j).f0 ∧ idxC (clsAt t i).f1 t 0 = (j : Int) := by
 unfold up at h
 by_cases h1 : idxC (clsAt t i).f1 t 0 < 0
 ·
  rw [if_pos h1] at h; cases h
 ·
  rw [if_neg h1] at h
  cases h
  obtain ⟨h2, h3, _⟩ := zbX _ t h1
  exact ⟨h2, (bl h3).symm, by omega⟩
theorem zdS {t : List Cl} {i : Nat} (h : up t i = none) : idxC (clsAt t i).f1 t 0 < 0 := by
 unfold up at h
 by_cases h1 : idxC (clsAt t i).f1 t 0 < 0
 ·
  exact h1
 ·
  rw [if_neg h1] at h; cases h
theorem Good.top {t : List Cl} (g : Good t) {i : Nat} (hi : i < t.length) (h : up t i = none) : (clsAt t i).f1 = ⟨#[]⟩ := by
 have h1 := zdS h
 have h2 := g.lin i hi
 unfold zdQ at h2
 by_cases h3 : (clsAt t i).f1.toList = []
 ·
  exact bl0 h3
 ·
  rw [if_pos ⟨h3, by unfold is1; simpa using h1⟩] at h2
  exact absurd h2 d9
def it (t : List Cl) : Nat → Nat → Option Nat
 | 0, i => some i
 | k + 1, i => (up t i).bind (it t k)
theorem zcu (t : List Cl) : ∀ (a b i : Nat), it t (a + b) i = (it t a i).bind (it t b)
 | 0, b, i => by rw [Nat.zero_add]; rfl
 | a + 1, b, i => by
  rw [Nat.add_right_comm]
  show (up t i).bind (it t (a + b)) = ((up t i).bind (it t a)).bind (it t b)
  cases up t i with
  | none => rfl
  | some j => exact zcu t a b j
theorem it_lt (t : List Cl) : ∀ (a i j : Nat), i < t.length → it t a i = some j → j < t.length
 | 0, i, j, hi, h => by cases h; exact hi
 | a + 1, i, j, hi, h => by
  obtain ⟨m, h1, h2⟩ := Option.bind_eq_some_iff.1 h
  exact it_lt t a m j (zcf h1).1 h2
theorem zex {t : List Cl} {p i : Nat} (hp : 1 ≤ p) (h : it t p i = some i) : ∀ m, (it t m i).isSome = true := by
 intro m
 induction m using Nat.strongRecOn with
 | _ m ih =>
  rcases Nat.lt_or_ge m p with hm | hm
  ·
   have h1 := zcu t m (p - m) i
   rw [show m + (p - m) = p by omega, h] at h1
   cases hx : it t m i with
   | none => rw [hx] at h1; cases h1
   | some _ => rfl
  ·
   have h1 := zcu t p (m - p) i
   rw [show p + (m - p) = m by omega, h] at h1
   rw [h1]
   exact ih (m - p) o9
def path (t : List Cl) : Nat → Nat → List Nat
 | 0, i => [i]
 | k + 1, i => i :: (match up t i with | none => [] | some j => path t k j)
theorem zcP (t : List Cl) (k : Nat) (pre : List Nat) (nm : ByteArray) (h : idxC nm t 0 < 0) : lineP t k pre nm = [] := by
 cases k with
 | zero => rfl
 | succ k => unfold lineP; rw [if_pos h]
theorem ze1 (t : List Cl) : ∀ (k i : Nat) (pre : List Nat) (fuel : Nat) (nm : ByteArray), idxC nm t 0 = (i : Int) → it t (k + 1) i = none → (∀ q ∈ pre, ∀ j, it t j i ≠ some q) → k < fuel → lineP t fuel pre nm = path t k i := by
 intro k
 induction k with
 | zero =>
  intro i pre fuel nm hn hd hp hf
  obtain ⟨f, rfl⟩ : ∃ f, fuel = f + 1 := ⟨fuel - 1, by omega⟩
  unfold lineP
  rw [if_neg o9, hn, Int.toNat_natCast, if_neg (fun h => hp i h 0 rfl)]
  have hu : up t i = none := by
   cases hu : up t i with
   | none => rfl
   | some j => simp [it, hu] at hd
  rw [zcP t _ _ _ (zdS hu)]
  rfl
 | succ k ih =>
  intro i pre fuel nm hn hd hp hf
  obtain ⟨f, rfl⟩ : ∃ f, fuel = f + 1 := ⟨fuel - 1, by omega⟩
  unfold lineP
  rw [if_neg o9, hn, Int.toNat_natCast, if_neg (fun h => hp i h 0 rfl)]
  unfold path
  cases hu : up t i with
  | none => rw [zcP t _ _ _ (zdS hu)]
  | some j =>
   have hd' : it t (k + 1) j = none := by
    have : it t (k + 1 + 1) i = (up t i).bind (it t (k + 1)) := rfl
    rw [this, hu] at hd
    exact hd
   have hs : ∀ a, it t (a + 1) i = it t a j := fun a => by
    show (up t i).bind (it t a) = _
    rw [hu]; rfl
   rw [ih j (pre ++ [i]) f _ (zcf hu).2.2 hd' (fun q hq a ha => ?_) o9]
   rcases List.mem_append.1 hq with hq | hq
   ·
    exact hp q hq (a + 1) ((hs a).trans ha)
   ·
    rw [List.mem_singleton] at hq
    subst hq
    have := zex (p := a + 1) o9 ((hs a).trans ha) (k + 1 + 1)
    rw [hd] at this
    cases this
theorem zfc (t : List Cl) : ∀ (k i : Nat), it t (k + 1) i = none → path t (k + 1) i = path t k i
 | 0, i, h => by
  have hu : up t i = none := by
   cases hu : up t i with
   | none => rfl
   | some j => simp [it, hu] at h
  simp [path, hu]
 | k + 1, i, h => by
  show i :: _ = i :: _
  cases hu : up t i with
  | none => rfl
  | some j =>
   have h' : it t (k + 1) j = none := by
    have : it t (k + 1 + 1) i = (up t i).bind (it t (k + 1)) := rfl
    rw [this, hu] at h
    exact h
   show i :: path t (k + 1) j = i :: path t k j
   rw [zfc t k j h']
theorem zif {t : List Cl} {s : Nat} : ∀ p, 1 ≤ p → it t p s = some s → ∃ p, 1 ≤ p ∧ it t p s = some s ∧ ∀ q, 1 ≤ q → q < p → it t q s ≠ some s := by
 intro p
 induction p using Nat.strongRecOn with
 | _ p ih =>
  intro hp h
  by_cases hm : ∀ q, 1 ≤ q → q < p → it t q s ≠ some s
  ·
   exact ⟨p, hp, h, hm⟩
  ·
   obtain ⟨q, hq⟩ := Classical.not_forall.1 hm
   obtain ⟨h1, hq⟩ := Classical.not_imp.1 hq
   obtain ⟨h2, hq⟩ := Classical.not_imp.1 hq
   exact ih q h2 h1 (Classical.not_not.1 hq)
theorem zhK {t : List Cl} {s p : Nat} (hp : 1 ≤ p) (h : it t p s = some s) (hm : ∀ q, 1 ≤ q → q < p → it t q s ≠ some s) (z : Nat) (hz : it t (p - 1) s = some z) :
  ∀ (d q x : Nat) (pre : List Nat) (fuel : Nat) (nm : ByteArray), d = p - 1 - q → q < p → it t q s = some x → idxC nm t 0 = (x : Int) → (∀ y ∈ pre, ∃ r, r < q ∧ it t r s = some y) → (0 < q → s ∈ pre) → d < fuel → (lineP t fuel pre nm).getLast? = some z := by
 have hdist : ∀ a b x, a < b → b < p → it t a s = some x → it t b s = some x → False := fun a b x hab hb h1 h2 => by
  have h3 := zcu t b (p - b) s
  rw [show b + (p - b) = p by omega, h, h2] at h3
  have h4 := zcu t a (p - b) s
  rw [h1] at h4
  exact hm (a + (p - b)) o9 o9 (h4.trans h3.symm)
 intro d
 induction d with
 | zero =>
  intro q x pre fuel nm hd hq hx hn hpre hs hf
  obtain rfl : q = p - 1 := by omega
  obtain rfl : x = z := Option.some.inj (hx.symm.trans hz)
  obtain ⟨f, rfl⟩ : ∃ f, fuel = f + 1 := ⟨fuel - 1, by omega⟩
  unfold lineP
  rw [if_neg o9, hn, Int.toNat_natCast, if_neg (fun hh => by
   obtain ⟨r, h1, h2⟩ := hpre x hh
   exact hdist r (p - 1) x h1 hq h2 hx)]
  have hux : up t x = some s := by
   have h3 := zcu t (p - 1) 1 s
   rw [show p - 1 + 1 = p by omega, h, hx] at h3
   have h4 : some s = (up t x).bind (it t 0) := h3
   cases hu : up t x with
   | none => rw [hu] at h4; cases h4
   | some j => rw [hu] at h4; exact h4.symm
  have hi := (zcf hux).2.2
  have : lineP t f (pre ++ [x]) (clsAt t x).f1 = [] := by
   cases f with
   | zero => rfl
   | succ f =>
    unfold lineP
    rw [if_neg o9, hi, Int.toNat_natCast, if_pos]
    rcases Nat.eq_zero_or_pos (p - 1) with h0 | h0
    ·
     rw [h0] at hx
     cases hx
     simp
    ·
     exact List.mem_append_left _ (hs h0)
  rw [this]; rfl
 | succ d ih =>
  intro q x pre fuel nm hd hq hx hn hpre hs hf
  obtain ⟨f, rfl⟩ : ∃ f, fuel = f + 1 := ⟨fuel - 1, by omega⟩
  unfold lineP
  rw [if_neg o9, hn, Int.toNat_natCast, if_neg (fun hh => by
   obtain ⟨r, h1, h2⟩ := hpre x hh
   exact hdist r q x h1 hq h2 hx)]
  have hq1 := zex hp h (q + 1)
  obtain ⟨y, hy⟩ := Option.isSome_iff_exists.1 hq1
  have hux : up t x = some y := by
   have h3 := zcu t q 1 s
   rw [hy, hx] at h3
   have h4 : some y = (up t x).bind (it t 0) := h3
   cases hu : up t x with
   | none => rw [hu] at h4; cases h4
   | some j => rw [hu] at h4; exact h4.symm
  have h1 := ih (q + 1) y (pre ++ [x]) f _ o9 o9 hy (zcf hux).2.2 (fun w hw => by
   rcases List.mem_append.1 hw with hw | hw
   ·
    obtain ⟨r, h1, h2⟩ := hpre w hw
    exact ⟨r, by omega, h2⟩
   ·
    rw [List.mem_singleton.1 hw]; exact ⟨q, by omega, hx⟩) (fun _ => by
   rcases Nat.eq_zero_or_pos q with h0 | h0
   ·
    subst h0
    cases hx
    simp
   ·
    exact List.mem_append_left _ (hs h0)) o9
  rw [List.getLast?_cons, h1]; rfl
theorem zf1 {t : List Cl} {nm : ByteArray} {z : Nat} (h : (lineL t nm).getLast? = some z) : lastN t nm = (clsAt t z).f0 := by
 have h0 : (supL t nm).length = (lineL t nm).length := by simp [supL]
 have hne : lineL t nm ≠ [] := fun e => by rw [e] at h; cases h
 have hp := List.length_pos_iff.2 hne
 unfold lastN rdOf
 rw [show ((((supL t nm).length : Int) - 1)).toNat = (lineL t nm).length - 1 by omega, List.getD_eq_getElem?_getD]
 unfold supL
 rw [List.getElem?_map]
 rw [List.getLast?_eq_getElem?] at h
 rw [h]; rfl
theorem Good.ziC {t : List Cl} (g : Good t) {s : Nat} (hs : s < t.length) (p : Nat) (hp : 1 ≤ p) : it t p s ≠ some s := fun h => by
 obtain ⟨p, hp, h, hm⟩ := zif p hp h
 obtain ⟨z, hz⟩ := Option.isSome_iff_exists.1 (zex hp h (p - 1))
 have hzl := it_lt t _ _ _ hs hz
 have hux : up t z = some s := by
  have h3 := zcu t (p - 1) 1 s
  rw [show p - 1 + 1 = p by omega, h, hz] at h3
  have h4 : some s = (up t z).bind (it t 0) := h3
  cases hu : up t z with
  | none => rw [hu] at h4; cases h4
  | some j => rw [hu] at h4; exact h4.symm
 have hple : p ≤ t.length := by
  have hn : ((List.range p).map fun j => (it t j s).getD 0).Nodup := by
   refine List.pairwise_map.2 (List.Pairwise.imp_of_mem ?_ List.pairwise_lt_range)
   intro a b ha hb hab e
   obtain ⟨x, hx⟩ := Option.isSome_iff_exists.1 (zex hp h a)
   obtain ⟨y, hy⟩ := Option.isSome_iff_exists.1 (zex hp h b)
   rw [hx, hy] at e
   have exy : x = y := e
   subst exy
   have hbp := List.mem_range.1 hb
   have h3 := zcu t b (p - b) s
   rw [show b + (p - b) = p by omega, h, hy] at h3
   have h4 := zcu t a (p - b) s
   rw [hx] at h4
   exact hm (a + (p - b)) o9 o9 (h4.trans h3.symm)
  have := zdd _ (List.range t.length) hn (fun x hx => by
   obtain ⟨j, _, rfl⟩ := List.mem_map.1 hx
   obtain ⟨y, hy⟩ := Option.isSome_iff_exists.1 (zex hp h j)
   rw [hy]
   exact List.mem_range.2 (it_lt t _ _ _ hs hy))
  simpa using this
 have hl := zhK hp h hm z hz (p - 1) 0 s [] (t.length + 1) (clsAt t s).f0 o9 o9 rfl (g.first s hs) (fun y hy => by cases hy) (fun h => absurd h o9) o9
 have h5 := zf1 (nm := (clsAt t s).f0) hl
 have h6 := g.lin s hs
 unfold zdQ at h6
 rw [h5] at h6
 have h7 : at1 t (clsAt t z).f0 = (z : Int) := by unfold at1; rw [g.first z hzl, if_neg o9]
 rw [h7, Int.toNat_natCast, (zcf hux).2.1] at h6
 by_cases h8 : ¬ (clsAt t s).f1.toList = [] ∧ is1 t (clsAt t s).f1 = false
 ·
  rw [if_pos h8] at h6; exact absurd h6 d9
 ·
  rw [if_neg h8, if_pos rfl] at h6; exact absurd h6 d9
theorem Good.ends {t : List Cl} (g : Good t) {i : Nat} (hi : i < t.length) : it t t.length i = none := by
 cases hx : it t t.length i with
 | none => rfl
 | some x =>
  exfalso
  have hs : ∀ j, j ≤ t.length → ∃ y, it t j i = some y := fun j hj => by
   have h1 := zcu t j (t.length - j) i
   rw [show j + (t.length - j) = t.length by omega, hx] at h1
   cases hy : it t j i with
   | none => rw [hy] at h1; cases h1
   | some y => exact ⟨y, rfl⟩
  have hn : ((List.range (t.length + 1)).map fun j => (it t j i).getD 0).Nodup := by
   refine List.pairwise_map.2 (List.Pairwise.imp_of_mem ?_ List.pairwise_lt_range)
   intro a b ha hb hab e
   obtain ⟨x, hx⟩ := hs a (by have := List.mem_range.1 ha; omega)
   obtain ⟨y, hy⟩ := hs b (by have := List.mem_range.1 hb; omega)
   rw [hx, hy] at e
   have exy : x = y := e
   subst exy
   have h1 := zcu t a (b - a) i
   rw [show a + (b - a) = b by omega, hx, hy] at h1
   exact g.ziC (it_lt t _ _ _ hi hx) (b - a) o9 h1.symm
  have := zdd _ (List.range t.length) hn (fun x hx => by
   obtain ⟨j, hj, rfl⟩ := List.mem_map.1 hx
   obtain ⟨y, hy⟩ := hs j (by have := List.mem_range.1 hj; omega)
   rw [hy]
   exact List.mem_range.2 (it_lt t _ _ _ hi hy))
  simp only [List.length_map, List.length_range] at this
  omega
theorem Good.line {t : List Cl} (g : Good t) {i : Nat} (hi : i < t.length) : lineL t (clsAt t i).f0 = i :: lineL t (clsAt t i).f1 := by
 obtain ⟨m, hm⟩ : ∃ m, t.length = m + 1 := ⟨t.length - 1, by omega⟩
 have hd := g.ends hi
 rw [hm] at hd
 have h1 : lineL t (clsAt t i).f0 = path t m i := ze1 t m i [] _ _ (g.first i hi) hd (fun q hq => by cases hq) o9
 rw [h1]
 cases hu : up t i with
 | none =>
  have h2 : lineL t (clsAt t i).f1 = [] := zcP t _ _ _ (zdS hu)
  rw [h2]
  cases m with
  | zero => rfl
  | succ m => simp [path, hu]
 | some j =>
  have hj := g.ends (zcf hu).1
  rw [hm] at hj
  have h2 : lineL t (clsAt t i).f1 = path t m j := ze1 t m j [] _ _ (zcf hu).2.2 hj (fun q hq => by cases hq) o9
  rw [h2]
  cases m with
  | zero => simp [it, hu] at hd
  | succ m =>
   have hd' : it t (m + 1) j = none := by
    have : it t (m + 1 + 1) i = (up t i).bind (it t (m + 1)) := rfl
    rw [this, hu] at hd
    exact hd
   rw [zfc t m j hd']
   simp [path, hu]
theorem Good.zhL {t : List Cl} (g : Good t) {P : ByteArray → Prop} (h0 : ∀ nm, idxC nm t 0 < 0 → P nm) (hs : ∀ i, i < t.length → P (clsAt t i).f1 → P (clsAt t i).f0) (nm : ByteArray) : P nm := by
 have key : ∀ m i, i < t.length → it t m i = none → P (clsAt t i).f0 := by
  intro m
  induction m with
  | zero => intro i hi h; cases h
  | succ m ih =>
   intro i hi h
   refine hs i hi ?_
   cases hu : up t i with
   | none => exact h0 _ (zdS hu)
   | some j =>
    rw [(zcf hu).2.1]
    have : it t (m + 1) i = (up t i).bind (it t m) := rfl
    rw [this, hu] at h
    exact ih j (zcf hu).1 h
 by_cases hn : idxC nm t 0 < 0
 ·
  exact h0 nm hn
 ·
  obtain ⟨h1, h2, _⟩ := zbX nm t hn
  rw [← bl h2]
  exact key _ _ h1 (g.ends h1)
theorem zdK {t : List Cl} {nm : ByteArray} (h : idxC nm t 0 < 0) : lineL t nm = [] := zcP t _ _ _ h
theorem Good.fields {t : List Cl} (g : Good t) {i : Nat} (hi : i < t.length) : za1 t (clsAt t i).f0 = za1 t (clsAt t i).f1 ++ (clsAt t i).f2 := by
 unfold za1 zbW
 rw [g.line hi, List.reverse_cons, List.flatMap_append]
 simp
theorem Good.meths {t : List Cl} (g : Good t) {i : Nat} (hi : i < t.length) : zbE t (clsAt t i).f0 = (clsAt t i).f3.foldl putS (zbE t (clsAt t i).f1) := by
 unfold zbE ze6
 rw [g.line hi, List.reverse_cons, List.flatMap_append, List.foldl_append]
 simp
theorem Good.zhV {t : List Cl} (g : Good t) {i : Nat} (hi : i < t.length) (nm : ByteArray) : methodAt t nm (lineL t (clsAt t i).f0) = if idxS nm (clsAt t i).f3 0 < 0 then methodAt t nm (lineL t (clsAt t i).f1) else some i := by
 unfold methodAt
 rw [g.line hi]
 by_cases h : idxS nm (clsAt t i).f3 0 < 0
 ·
  rw [if_pos h, List.find?_cons_of_neg (by simpa using h)]
 ·
  rw [if_neg h, List.find?_cons_of_pos (by simpa using h)]
theorem uniq {α β : Type} (f : α → β) : ∀ {l : List α}, (l.map f).Nodup → ∀ x ∈ l, ∀ y ∈ l, f x = f y → x = y
 | [], _, x, hx, _, _, _ => by cases hx
 | z :: r, hd, x, hx, y, hy, e => by
  rw [List.map_cons, List.nodup_cons] at hd
  rcases List.mem_cons.1 hx with rfl | hx1
  ·
   rcases List.mem_cons.1 hy with rfl | hy1
   ·
    rfl
   ·
    exact absurd (show f x ∈ r.map f from List.mem_map.2 ⟨y, hy1, e.symm⟩) hd.1
  ·
   rcases List.mem_cons.1 hy with rfl | hy1
   ·
    exact absurd (show f y ∈ r.map f from List.mem_map.2 ⟨x, hx1, e⟩) hd.1
   ·
    exact uniq f hd.2 x hx1 y hy1 e
theorem zc4 (s : ByteArray) : ∀ (l : List Vr) (i : Nat), (idxV s l i < 0 ∧ ∀ x ∈ l, x.f0 ≠ s) ∨ ∃ j x, l[j]? = some x ∧ x.f0 = s ∧ idxV s l i = ((i + j : Nat) : Int)
 | [], i => .inl ⟨by simp [idxV], fun x h => by cases h⟩
 | y :: r, i => by
  unfold idxV
  by_cases hy : y.f0.toList = s.toList
  ·
   rw [if_pos hy]; exact .inr ⟨0, y, rfl, bl hy, by simp⟩
  ·
   rw [if_neg hy]
   rcases zc4 s r (i + 1) with ⟨h1, h2⟩ | ⟨j, x, h1, h2, h3⟩
   ·
    refine .inl ⟨h1, fun x hx => ?_⟩
    rcases List.mem_cons.1 hx with rfl | hx
    ·
     exact fun e => hy (by rw [e])
    ·
     exact h2 x hx
   ·
    exact .inr ⟨j + 1, x, h1, h2, by rw [h3]; congr 1; omega⟩
theorem fV_in {nm : ByteArray} {l : List Vr} {x : Vr} (hx : x ∈ l) (hn : x.f0 = nm) : ¬ idxV nm l 0 < 0 ∧ zcM nm l ∈ l ∧ (zcM nm l).f0 = nm := by
 rcases zc4 nm l 0 with ⟨_, h2⟩ | ⟨j, y, h1, h2, h3⟩
 ·
  exact absurd hn (h2 x hx)
 ·
  rw [Nat.zero_add] at h3
  have h4 : ¬ idxV nm l 0 < 0 := by omega
  have h5 : zcM nm l = y := by
   unfold zcM
   rw [if_neg h4, h3]
   unfold zaE
   rw [Int.toNat_natCast, List.getD_eq_getElem?_getD, h1]; rfl
  rw [h5]
  exact ⟨h4, List.mem_of_getElem? h1, h2⟩
theorem ziS {nm : ByteArray} {l : List Vr} (h : ∀ x ∈ l, x.f0 ≠ nm) : idxV nm l 0 < 0 ∧ zcM nm l = z35 := by
 rcases zc4 nm l 0 with ⟨h1, _⟩ | ⟨j, y, h1, h2, h3⟩
 ·
  exact ⟨h1, by unfold zcM; rw [if_pos h1]⟩
 ·
  exact absurd h2 (h y (List.mem_of_getElem? h1))
theorem fV_is {l : List Vr} (hd : (l.map fun x => x.f0).Nodup) {x : Vr} (hx : x ∈ l) : zcM x.f0 l = x := by
 obtain ⟨_, h1, h2⟩ := fV_in hx rfl
 exact uniq (fun x : Vr => x.f0) hd _ h1 _ hx h2
theorem zc2 (s : ByteArray) : ∀ (l : List Sg) (i : Nat), (idxS s l i < 0 ∧ ∀ x ∈ l, x.f0 ≠ s) ∨ ∃ j x, l[j]? = some x ∧ x.f0 = s ∧ idxS s l i = ((i + j : Nat) : Int)
 | [], i => .inl ⟨by simp [idxS], fun x h => by cases h⟩
 | y :: r, i => by
  unfold idxS
  by_cases hy : y.f0.toList = s.toList
  ·
   rw [if_pos hy]; exact .inr ⟨0, y, rfl, bl hy, by simp⟩
  ·
   rw [if_neg hy]
   rcases zc2 s r (i + 1) with ⟨h1, h2⟩ | ⟨j, x, h1, h2, h3⟩
   ·
    refine .inl ⟨h1, fun x hx => ?_⟩
    rcases List.mem_cons.1 hx with rfl | hx
    ·
     exact fun e => hy (by rw [e])
    ·
     exact h2 x hx
   ·
    exact .inr ⟨j + 1, x, h1, h2, by rw [h3]; congr 1; omega⟩
theorem fS_in {nm : ByteArray} {l : List Sg} {x : Sg} (hx : x ∈ l) (hn : x.f0 = nm) : ¬ idxS nm l 0 < 0 ∧ zci nm l ∈ l ∧ (zci nm l).f0 = nm := by
 rcases zc2 nm l 0 with ⟨_, h2⟩ | ⟨j, y, h1, h2, h3⟩
 ·
  exact absurd hn (h2 x hx)
 ·
  rw [Nat.zero_add] at h3
  have h4 : ¬ idxS nm l 0 < 0 := by omega
  have h5 : zci nm l = y := by
   unfold zci
   rw [if_neg h4, h3]
   unfold zaF
   rw [Int.toNat_natCast, List.getD_eq_getElem?_getD, h1]; rfl
  rw [h5]
  exact ⟨h4, List.mem_of_getElem? h1, h2⟩
theorem zhR {nm : ByteArray} {l : List Sg} (h : ∀ x ∈ l, x.f0 ≠ nm) : idxS nm l 0 < 0 ∧ zci nm l = z26 := by
 rcases zc2 nm l 0 with ⟨h1, _⟩ | ⟨j, y, h1, h2, h3⟩
 ·
  exact ⟨h1, by unfold zci; rw [if_pos h1]⟩
 ·
  exact absurd h2 (h y (List.mem_of_getElem? h1))
theorem fS_is {l : List Sg} (hd : (l.map fun x => x.f0).Nodup) {x : Sg} (hx : x ∈ l) : zci x.f0 l = x := by
 obtain ⟨_, h1, h2⟩ := fS_in hx rfl
 exact uniq (fun x : Sg => x.f0) hd _ h1 _ hx h2
theorem zdG (s : ByteArray) : ∀ (l : List Mb) (i : Nat), (idxM s l i < 0 ∧ ∀ x ∈ l, x.f0 ≠ s) ∨ ∃ j x, l[j]? = some x ∧ x.f0 = s ∧ idxM s l i = ((i + j : Nat) : Int)
 | [], i => .inl ⟨by simp [idxM], fun x h => by cases h⟩
 | y :: r, i => by
  unfold idxM
  by_cases hy : y.f0.toList = s.toList
  ·
   rw [if_pos hy]; exact .inr ⟨0, y, rfl, bl hy, by simp⟩
  ·
   rw [if_neg hy]
   rcases zdG s r (i + 1) with ⟨h1, h2⟩ | ⟨j, x, h1, h2, h3⟩
   ·
    refine .inl ⟨h1, fun x hx => ?_⟩
    rcases List.mem_cons.1 hx with rfl | hx
    ·
     exact fun e => hy (by rw [e])
    ·
     exact h2 x hx
   ·
    exact .inr ⟨j + 1, x, h1, h2, by rw [h3]; congr 1; omega⟩
theorem fM_in {nm : ByteArray} {l : List Mb} {x : Mb} (hx : x ∈ l) (hn : x.f0 = nm) : ¬ idxM nm l 0 < 0 ∧ zc7 nm l ∈ l ∧ (zc7 nm l).f0 = nm := by
 rcases zdG nm l 0 with ⟨_, h2⟩ | ⟨j, y, h1, h2, h3⟩
 ·
  exact absurd hn (h2 x hx)
 ·
  rw [Nat.zero_add] at h3
  have h4 : ¬ idxM nm l 0 < 0 := by omega
  have h5 : zc7 nm l = y := by
   unfold zc7
   rw [if_neg h4, h3]
   unfold zaI
   rw [Int.toNat_natCast, List.getD_eq_getElem?_getD, h1]; rfl
  rw [h5]
  exact ⟨h4, List.mem_of_getElem? h1, h2⟩
theorem fM_is {l : List Mb} (hd : (l.map fun x => x.f0).Nodup) {x : Mb} (hx : x ∈ l) : zc7 x.f0 l = x := by
 obtain ⟨_, h1, h2⟩ := fM_in hx rfl
 exact uniq (fun x : Mb => x.f0) hd _ h1 _ hx h2
theorem zec (k : ByteArray) : ∀ (l : List ByteArray) (n : Nat), nidx k l n = none → k ∉ l
 | [], _, _ => by simp
 | x :: r, n, h => by
  unfold nidx at h
  by_cases hk : k = x
  ·
   rw [if_pos hk] at h; cases h
  ·
   rw [if_neg hk] at h
   exact fun hm => (List.mem_cons.1 hm).elim hk (zec k r (n + 1) h)
abbrev nmS : Sg → ByteArray := fun x => x.f0
theorem zhh {out : List Sg} (m : Sg) (hd : (out.map nmS).Nodup) (x : Sg) : x ∈ putS out m ↔ x = m ∨ (x ∈ out ∧ x.f0 ≠ m.f0) := by
 unfold putS
 cases h : nidx m.f0 (out.map (·.f0)) 0 with
 | none =>
  have h1 := zec _ _ _ h
  simp only [List.mem_append, List.mem_singleton]
  constructor
  ·
   rintro (h2 | h2)
   ·
    exact .inr ⟨h2, fun e => h1 (List.mem_map.2 ⟨x, h2, e⟩)⟩
   ·
    exact .inl h2
  ·
   rintro (h2 | h2)
   ·
    exact .inr h2
   ·
    exact .inl h2.1
 | some p =>
  obtain ⟨_, h2, h3⟩ := zd5 _ _ 0 p h
  simp only [Nat.sub_zero, List.getElem?_map] at h3
  obtain ⟨y, hy, hyn⟩ := Option.map_eq_some_iff.1 h3
  have hp : p < out.length := (List.getElem?_eq_some_iff.1 hy).1
  constructor
  ·
   intro hx
   obtain ⟨q, hq⟩ := List.getElem?_of_mem hx
   rw [List.getElem?_set] at hq
   by_cases hpq : p = q
   ·
    rw [if_pos hpq, if_pos hp] at hq
    exact .inl (Option.some.inj hq).symm
   ·
    rw [if_neg hpq] at hq
    refine .inr ⟨List.mem_of_getElem? hq, fun e => hpq ?_⟩
    refine (List.getElem?_inj (by simpa using hp) hd).1 ?_
    rw [List.getElem?_map, List.getElem?_map, hy, hq]
    simp [nmS, hyn, e]
  ·
   rintro (rfl | ⟨hx, he⟩)
   ·
    exact List.mem_of_getElem? (i := p) (by rw [List.getElem?_set, if_pos rfl, if_pos hp])
   ·
    obtain ⟨q, hq⟩ := List.getElem?_of_mem hx
    refine List.mem_of_getElem? (i := q) ?_
    rw [List.getElem?_set, if_neg, hq]
    rintro rfl
    rw [hy] at hq
    cases hq
    exact he hyn
theorem zil {out : List Sg} (m : Sg) (hd : (out.map nmS).Nodup) : ((putS out m).map nmS).Nodup := by
 have h := zdn out m
 show ((putS out m).map (fun x => x.f0)).Nodup
 rw [h]
 cases hn : nidx m.f0 (out.map (·.f0)) 0 with
 | some p => exact hd
 | none =>
  rw [List.nodup_append]
  refine ⟨hd, by simp, fun a ha b hb e => ?_⟩
  rw [List.mem_singleton] at hb
  subst hb
  exact zec _ _ _ hn (e ▸ ha)
theorem foldS : ∀ (ms out : List Sg), (out.map nmS).Nodup → (ms.map nmS).Nodup → ((ms.foldl putS out).map nmS).Nodup ∧ ∀ x, x ∈ ms.foldl putS out ↔ x ∈ ms ∨ (x ∈ out ∧ x.f0 ∉ ms.map nmS)
 | [], out, hd, _ => ⟨hd, fun x => by simp⟩
 | m :: r, out, hd, hm => by
  rw [List.map_cons, List.nodup_cons] at hm
  obtain ⟨h1, h2⟩ := foldS r (putS out m) (zil m hd) hm.2
  refine ⟨h1, fun x => ?_⟩
  rw [List.foldl_cons, h2 x, zhh m hd x]
  simp only [List.mem_cons, List.map_cons]
  constructor
  ·
   rintro (h | ⟨rfl | ⟨h3, h4⟩, h5⟩)
   ·
    exact .inl (.inr h)
   ·
    exact .inl (.inl rfl)
   ·
    exact .inr ⟨h3, fun h => h.elim h4 h5⟩
  ·
   rintro ((rfl | h) | ⟨h3, h4⟩)
   ·
    exact .inr ⟨.inl rfl, hm.1⟩
   ·
    exact .inl h
   ·
    exact .inr ⟨.inr ⟨h3, fun e => h4 (.inl e)⟩, fun e => h4 (.inr e)⟩
theorem zeW (nm : ByteArray) (l : List ByteArray) : hasN nm l = true ↔ nm ∈ l := by
 rw [zfW]
 simp only [List.any_eq_true, decide_eq_true_eq]
 exact ⟨fun ⟨x, h1, h2⟩ => bl h2 ▸ h1, fun h => ⟨nm, h, rfl⟩⟩
theorem zhb {t : List Cl} {mb : List Mb} {fs : List ByteArray} {nm ty : ByteArray} (h : zcv t mb fs nm ty = 0) : arB mb nm = false ∧ nm ∉ fs := by
 unfold zcv at h
 by_cases h1 : nm.toList.isEmpty = true
 ·
  rw [if_pos h1] at h; exact absurd h d9
 rw [if_neg h1] at h
 by_cases h2 : ¬ zb7 t nm ty = 0
 ·
  rw [if_pos h2] at h; exact absurd h h2
 rw [if_neg h2] at h
 by_cases h3 : arB mb nm = true ∨ hasN nm fs = true
 ·
  rw [if_pos h3] at h; exact absurd h d9
 ·
  exact ⟨by cases hb : arB mb nm with | false => rfl | true => exact absurd (.inl hb) h3, fun e => h3 (.inr ((zeW nm fs).2 e))⟩
theorem zeq (t : List Cl) (mb : List Mb) : ∀ (l : List Vr) (fs : List ByteArray), zcn t mb l fs = 0 → fs.Nodup → (fs ++ l.map fun x => x.f0).Nodup ∧ ∀ v ∈ l, arB mb v.f0 = false
 | [], fs, _, hd => ⟨by simpa using hd, fun v h => by cases h⟩
 | v :: r, fs, h, hd => by
  unfold zcn at h
  by_cases h0 : zcv t mb fs v.f0 v.f1 = 0
  ·
   rw [if_pos h0] at h
   obtain ⟨h1, h2⟩ := zhb h0
   obtain ⟨h3, h4⟩ := zeq t mb r (fs ++ [v.f0]) h (by
    rw [List.nodup_append]
    exact ⟨hd, by simp, fun a ha b hb e => by rw [List.mem_singleton] at hb; subst hb; exact h2 (e ▸ ha)⟩)
   refine ⟨by simpa using h3, fun w hw => ?_⟩
   rcases List.mem_cons.1 hw with rfl | hw
   ·
    exact h1
   ·
    exact h4 w hw
  ·
   rw [if_neg h0] at h; exact absurd h h0
structure MOk (t : List Cl) (su : ByteArray) (fs : List ByteArray) (m : Sg) : Prop where
 fb : zbt t su m.f0 = false
 fs : m.f0 ∉ fs
 over : (methodAt t m.f0 (lineL t su)).isSome = true → (methM t m.f0 (methodAt t m.f0 (lineL t su))).f2 = m.f2 ∧ likeV (methM t m.f0 (methodAt t m.f0 (lineL t su))).f1 m.f1 = true
theorem zgl {t : List Cl} {su : ByteArray} {fs ms : List ByteArray} {m : Sg} (h : zb3 t su fs ms m.f0 m.f1 m.f2 = 0) : MOk t su fs m ∧ m.f0 ∉ ms := by
 unfold zb3 at h
 by_cases h1 : nameB m.f0 = false
 ·
  rw [if_pos h1] at h; exact absurd h d9
 rw [if_neg h1] at h
 by_cases h2 : ¬ zcD t m.f1 [] = 0
 ·
  rw [if_pos h2] at h; exact absurd h h2
 rw [if_neg h2] at h
 by_cases h3 : ¬ zb7 t ⟨#[]⟩ m.f2 = 0
 ·
  rw [if_pos h3] at h; exact absurd h h3
 rw [if_neg h3] at h
 by_cases h4 : zbt t su m.f0 = true ∨ hasN m.f0 fs = true ∨ hasN m.f0 ms = true
 ·
  rw [if_pos h4] at h; exact absurd h d9
 rw [if_neg h4] at h
 by_cases h5 : (methodAt t m.f0 (lineL t su)).isSome = true ∧ (¬ (methM t m.f0 (methodAt t m.f0 (lineL t su))).f2.toList = m.f2.toList ∨ likeV (methM t m.f0 (methodAt t m.f0 (lineL t su))).f1 m.f1 = false)
 ·
  rw [if_pos h5] at h; exact absurd h d9
 refine ⟨⟨?_, fun e => h4 (.inr (.inl ((zeW _ _).2 e))), fun hs => ⟨?_, ?_⟩⟩, fun e => h4 (.inr (.inr ((zeW _ _).2 e)))⟩
 ·
  cases hb : zbt t su m.f0 with
  | false => rfl
  | true => exact absurd (.inl hb) h4
 ·
  exact bl (Classical.byContradiction fun hc => h5 ⟨hs, .inl hc⟩)
 ·
  cases hb : likeV (methM t m.f0 (methodAt t m.f0 (lineL t su))).f1 m.f1 with
  | true => rfl
  | false => exact absurd ⟨hs, .inr hb⟩ h5
theorem zd6 (t : List Cl) (su : ByteArray) (fs : List ByteArray) : ∀ (l : List Sg) (ms : List ByteArray), zck t su fs l ms = 0 → ms.Nodup → (ms ++ l.map nmS).Nodup ∧ ∀ m ∈ l, MOk t su fs m
 | [], ms, _, hd => ⟨by simpa using hd, fun v h => by cases h⟩
 | m :: r, ms, h, hd => by
  unfold zck at h
  by_cases h0 : zb3 t su fs ms m.f0 m.f1 m.f2 = 0
  ·
   rw [if_pos h0] at h
   obtain ⟨h1, h2⟩ := zgl h0
   obtain ⟨h3, h4⟩ := zd6 t su fs r (ms ++ [m.f0]) h (by
    rw [List.nodup_append]
    exact ⟨hd, by simp, fun a ha b hb e => by rw [List.mem_singleton] at hb; subst hb; exact h2 (e ▸ ha)⟩)
   refine ⟨by simpa [nmS] using h3, fun w hw => ?_⟩
   rcases List.mem_cons.1 hw with rfl | hw
   ·
    exact h1
   ·
    exact h4 w hw
  ·
   rw [if_neg h0] at h; exact absurd h h0
abbrev FN (t : List Cl) (nm : ByteArray) : List ByteArray := (za1 t nm).map fun x => x.f0
abbrev MN (t : List Cl) (nm : ByteArray) : List ByteArray := (zbE t nm).map nmS
theorem zcO (t : List Cl) (c nm : ByteArray) : zbt t c nm = true ↔ nm ∈ FN t c := by
 unfold zbt
 constructor
 ·
  intro h
  rcases zc4 nm (za1 t c) 0 with ⟨h1, _⟩ | ⟨j, x, h1, h2, _⟩
  ·
   simp [h1] at h
  ·
   exact List.mem_map.2 ⟨x, List.mem_of_getElem? h1, h2⟩
 ·
  intro h
  obtain ⟨x, h1, h2⟩ := List.mem_map.1 h
  simpa using (fV_in h1 h2).1
theorem zd8 (t : List Cl) (c : ByteArray) : (mem t c).map (fun x : Mb => x.f0) = FN t c ++ MN t c := by
 unfold mem
 rw [List.map_append, List.map_map, List.map_map]
 rfl
theorem zgZ (t : List Cl) (c nm : ByteArray) : arB (mem t c) nm = true ↔ nm ∈ FN t c ++ MN t c := by
 rw [← zd8]
 unfold arB
 constructor
 ·
  intro h
  rcases zdG nm (mem t c) 0 with ⟨h1, _⟩ | ⟨j, x, h1, h2, _⟩
  ·
   simp [h1] at h
  ·
   exact List.mem_map.2 ⟨x, List.mem_of_getElem? h1, h2⟩
 ·
  intro h
  obtain ⟨x, h1, h2⟩ := List.mem_map.1 h
  simpa using (fM_in h1 h2).1
structure MemOk (t : List Cl) (c : ByteArray) : Prop where
 fn : (FN t c).Nodup
 mn : (MN t c).Nodup
 dj : ∀ x ∈ FN t c, x ∉ MN t c
 at_ : ∀ m ∈ zbE t c, (methodAt t m.f0 (lineL t c)).isSome = true ∧ methM t m.f0 (methodAt t m.f0 (lineL t c)) = m
 no : ∀ x, x ∉ MN t c → methodAt t x (lineL t c) = none
structure OwnOk (t : List Cl) (i : Nat) : Prop where
 fs : ((clsAt t i).f2.map fun x => x.f0).Nodup
 up : ∀ v ∈ (clsAt t i).f2, v.f0 ∉ FN t (clsAt t i).f1 ∧ v.f0 ∉ MN t (clsAt t i).f1
 ms : ((clsAt t i).f3.map nmS).Nodup
 ok : ∀ m ∈ (clsAt t i).f3, MOk t (clsAt t i).f1 ((clsAt t i).f2.map fun x => x.f0) m
theorem Good.ownOk {t : List Cl} (g : Good t) {i : Nat} (hi : i < t.length) : OwnOk t i := by
 have h := g.own i hi
 unfold ownF at h
 by_cases h0 : zcn t (mem t (clsAt t i).f1) (clsAt t i).f2 [] = 0
 ·
  rw [if_pos h0] at h
  obtain ⟨h1, h2⟩ := zeq t _ _ [] h0 List.nodup_nil
  obtain ⟨h3, h4⟩ := zd6 t _ _ _ [] h List.nodup_nil
  refine ⟨by simpa using h1, fun v hv => ?_, by simpa using h3, h4⟩
  have h5 : ¬ v.f0 ∈ FN t (clsAt t i).f1 ++ MN t (clsAt t i).f1 := fun e => by
   have := (zgZ t (clsAt t i).f1 v.f0).2 e
   rw [h2 v hv] at this
   cases this
  exact ⟨fun e => h5 (List.mem_append_left _ e), fun e => h5 (List.mem_append_right _ e)⟩
 ·
  rw [if_neg h0] at h; exact absurd h h0
theorem Good.memOk {t : List Cl} (g : Good t) (c : ByteArray) : MemOk t c := by
 refine g.zhL (P := MemOk t) (fun nm h => ?_) (fun i hi ih => ?_) c
 ·
  have hl := zdK h
  have hf : za1 t nm = [] := by unfold za1 zbW; rw [hl]; rfl
  have hm : zbE t nm = [] := by unfold zbE ze6; rw [hl]; rfl
  refine ⟨by simp [FN, hf], by simp [MN, hm], by simp [FN, hf], by simp [hm], fun x _ => by rw [hl]; rfl⟩
 ·
  have o := g.ownOk hi
  have hf := g.fields hi
  have hm := g.meths hi
  obtain ⟨f1, f2⟩ := foldS (clsAt t i).f3 (zbE t (clsAt t i).f1) ih.mn o.ms
  rw [← hm] at f1 f2
  have hFN : FN t (clsAt t i).f0 = FN t (clsAt t i).f1 ++ (clsAt t i).f2.map fun x => x.f0 := by unfold FN; rw [hf, List.map_append]
  refine ⟨?_, f1, fun x hx hxm => ?_, fun m hmm => ?_, fun x hx => ?_⟩
  ·
   rw [hFN, List.nodup_append]
   refine ⟨ih.fn, o.fs, fun a ha b hb e => ?_⟩
   obtain ⟨v, hv, hvb⟩ := List.mem_map.1 hb
   exact (o.up v hv).1 (by rw [hvb, ← e]; exact ha)
  ·
   rw [hFN] at hx
   obtain ⟨m, hmm, hmx⟩ := List.mem_map.1 hxm
   replace hmx : m.f0 = x := hmx
   subst hmx
   rcases (f2 m).1 hmm with h1 | ⟨h1, _⟩
   ·
    have ok := o.ok m h1
    rcases List.mem_append.1 hx with h2 | h2
    ·
     have := (zcO t (clsAt t i).f1 m.f0).2 h2
     rw [ok.fb] at this
     cases this
    ·
     exact ok.fs h2
   ·
    rcases List.mem_append.1 hx with h2 | h2
    ·
     exact ih.dj _ h2 (List.mem_map.2 ⟨m, h1, rfl⟩)
    ·
     obtain ⟨v, hv, hvb⟩ := List.mem_map.1 h2
     exact (o.up v hv).2 (by rw [hvb]; exact List.mem_map.2 ⟨m, h1, rfl⟩)
  ·
   rw [g.zhV hi]
   rcases (f2 m).1 hmm with h1 | ⟨h1, h2⟩
   ·
    rw [if_neg (fS_in h1 rfl).1]
    exact ⟨rfl, fS_is o.ms h1⟩
   ·
    rw [if_pos (zhR (fun x hx e => h2 (List.mem_map.2 ⟨x, hx, e⟩))).1]
    exact ih.at_ m h1
  ·
   rw [g.zhV hi]
   have h1 : ∀ y ∈ (clsAt t i).f3, y.f0 ≠ x := fun y hy e => hx (List.mem_map.2 ⟨y, (f2 y).2 (.inl hy), e⟩)
   rw [if_pos (zhR h1).1]
   refine ih.no x fun hxm => ?_
   obtain ⟨m, hmm, hmx⟩ := List.mem_map.1 hxm
   replace hmx : m.f0 = x := hmx
   refine hx (List.mem_map.2 ⟨m, (f2 m).2 (.inr ⟨hmm, fun e => ?_⟩), hmx⟩)
   obtain ⟨y, hy, hyx⟩ := List.mem_map.1 e
   exact h1 y hy (hyx.trans hmx)
theorem zgG : ∀ (l m : List Vr), eqV l m = true → ∀ (k : Nat) (x y : Vr), l[k]? = some x → m[k]? = some y → x.f1 = y.f1
 | [], _, _, k, x, y, hx, _ => by simp at hx
 | a :: l, [], _, k, x, y, _, hy => by simp at hy
 | a :: l, b :: m, h, 0, x, y, hx, hy => by
  unfold eqV at h
  simp only [Bool.and_eq_true, beq_iff_eq] at h
  cases hx
  cases hy
  exact bl h.1
 | a :: l, b :: m, h, k + 1, x, y, hx, hy => by
  unfold eqV at h
  simp only [Bool.and_eq_true, beq_iff_eq] at h
  exact zgG l m h.2 k x y hx hy
theorem zhf {l m : List Vr} (h : likeV l m = true) : l.length = m.length ∧ ∀ (k : Nat) (x y : Vr), l[k]? = some x → m[k]? = some y → x.f1 = y.f1 := by
 unfold likeV at h
 simp only [Bool.and_eq_true, decide_eq_true_eq] at h
 exact ⟨h.1, zgG l m h.2⟩
theorem zgy {α β : Type} {F : α → Nat → Option β} {v : α → β} : ∀ l : List α, (∀ c ∈ l, Evn (F c) (v c)) → ∃ K, ∀ k, K ≤ k → ∀ c ∈ l, F c k = some (v c)
 | [], _ => ⟨0, fun _ _ c h => by cases h⟩
 | x :: r, h => by
  obtain ⟨K1, h1⟩ := h x List.mem_cons_self
  obtain ⟨K2, h2⟩ := zgy r (fun c hc => h c (List.mem_cons_of_mem _ hc))
  refine ⟨max K1 K2, fun k hk c hc => ?_⟩
  rcases List.mem_cons.1 hc with rfl | hc
  ·
   exact h1 k o9
  ·
   exact h2 k o9 c hc
theorem zik {c : Cl} (h : okC c) : zar.fits c = true := by
 obtain ⟨h0, h1, h2, h3, h4, h5⟩ := h
 unfold zar.fits
 simp only [Bool.and_eq_true, decide_eq_true_eq, List.all_eq_true]
 refine ⟨⟨⟨⟨⟨by omega, by omega⟩, by omega⟩, fun v hv => ?_⟩, by omega⟩, fun m hm => ?_⟩
 ·
  have := h4 v hv; omega
 ·
  obtain ⟨q0, q1, q2, q3⟩ := h5 m hm
  exact ⟨⟨⟨by omega, by omega⟩, by omega⟩, fun p hp => by have := q3 p hp; omega⟩
theorem zhD {t : List Cl} (ht : TS t) : Evn (fun k => zar.f k t) ((zb2 t (mem t)).1, ((zb2 t (mem t)).2 : Int)) := by
 obtain ⟨K, hK⟩ := zgy (F := fun (c : Cl) k => zaq.f k t c.f1) (v := fun c => mem t c.f1) t (fun c _ => zdo ht.toTB c.f1)
 refine ⟨K, fun k hk => ?_⟩
 have hm : ∀ c ∈ t, zar.mb k t c.f1 = mem t c.f1 := fun c hc => by unfold zar.mb; rw [hK k hk c hc]; rfl
 have ho : zar.ok k t = true := by
  unfold zar.ok
  simp only [Bool.and_eq_true, decide_eq_true_eq, List.all_eq_true]
  refine ⟨ht.toTB.small, fun c hc => ⟨⟨⟨zik (ht.ok c hc), ?_⟩, ?_⟩, ?_⟩⟩
  ·
   have := ht.toTB.fields c.f1; omega
  ·
   rw [hK k hk c hc]; rfl
  ·
   rw [hm c hc]; have := zfz ht.toTB c.f1; omega
 show zar.f k t = _
 unfold zar.f
 rw [if_pos ho, zar.zhS t (zar.mb k t) (mem t) (fun i hi => hm _ (zc6 t i hi))]
theorem zhn {t : List Cl} (ht : TB t) (c nm : ByteArray) : Evn (fun k => zaQ.f k t c nm) (arN (mem t c) nm, arB (mem t c) nm) := by
 refine Evn.bind (h := fun k L => if L.length < 4398046511104 then some (arN L nm, arB L nm) else none) (zdo ht c) ?_
 exact Evn.pos (by have := zfz ht c; omega) (Evn.ret _)
theorem zgw {t : List Cl} (ht : TB t) (c nm : ByteArray) : za3.f t c nm = some (zbK t c nm, zbt t c nm) := by
 unfold za3.f
 rw [if_pos ⟨by have := ht.len; omega, by have := ht.fields c; omega⟩]
abbrev mAt (t : List Cl) (c nm : ByteArray) : Option Nat := methodAt t nm (lineL t c)
theorem zfV {t : List Cl} (ht : TB t) (c nm : ByteArray) : zaS.f t c nm = some ((methM t nm (mAt t c nm)).f0, (methM t nm (mAt t c nm)).f1, (methM t nm (mAt t c nm)).f2, methC t (mAt t c nm), (mAt t c nm).isSome) := by
 unfold zaS.f
 rw [if_pos ht.small]
theorem ziu (a n : Int) (h : 0 < n) (hn : n ≤ 9) (ha : (Lit.int .i64 a).wf = true) : ∃ p, za5.f a n = some p ∧ 0 ≤ p ∧ p < n := by
 have h1 := Int.tmod_lt_of_pos a h
 have h3 : -n < a.tmod n := by
  have := Int.tmod_lt_of_pos (-a) h
  rw [Int.neg_tmod] at this
  omega
 unfold za5.f
 rw [if_neg o9, if_neg o9]
 by_cases h2 : a.tmod n < 0
 ·
  rw [if_pos h2]
  exact ⟨_, rfl, by unfold wrap64; omega, by unfold wrap64; omega⟩
 ·
  rw [if_neg h2]; exact ⟨_, rfl, by omega, h1⟩
theorem zhN {t : List Cl} {c nm : ByteArray} {p : Nat} (h : mAt t c nm = some p) : p < t.length := zbQ t _ _ _ _ (List.mem_of_find?_eq_some h)
theorem MemOk.nd {t : List Cl} {c : ByteArray} (h : MemOk t c) : ((mem t c).map fun x : Mb => x.f0).Nodup := by
 rw [zd8, List.nodup_append]
 exact ⟨h.fn, h.mn, fun a ha b hb e => h.dj a ha (e ▸ hb)⟩
theorem zgr {t : List Cl} {c : ByteArray} {x : Mb} (hx : x ∈ mem t c) : (∃ v ∈ za1 t c, x = ⟨v.f0, -1⟩) ∨ ∃ m ∈ zbE t c, x = ⟨m.f0, (m.f1.length : Int)⟩ := by
 unfold mem at hx
 rcases List.mem_append.1 hx with h | h
 ·
  obtain ⟨v, hv, e⟩ := List.mem_map.1 h
  exact .inl ⟨v, hv, e.symm⟩
 ·
  obtain ⟨m, hm, e⟩ := List.mem_map.1 h
  exact .inr ⟨m, hm, e.symm⟩
section
variable {t : List Cl} (g : Good t)
include g
theorem Good.ar (c : ByteArray) {x : Mb} (hx : x ∈ mem t c) : arN (mem t c) x.f0 = x.f1 ∧ arB (mem t c) x.f0 = true := by
 have h := fM_is (g.memOk c).nd hx
 exact ⟨by unfold arN; rw [h], (zgZ t c x.f0).2 (by rw [← zd8]; exact List.mem_map.2 ⟨x, hx, rfl⟩)⟩
theorem Good.zgX (c : ByteArray) {v : Vr} (hv : v ∈ za1 t c) : zbt t c v.f0 = true ∧ mAt t c v.f0 = none ∧ zbK t c v.f0 = v.f1 := by
 have h1 : v.f0 ∈ FN t c := List.mem_map.2 ⟨v, hv, rfl⟩
 exact ⟨(zcO t c _).2 h1, (g.memOk c).no _ ((g.memOk c).dj _ h1), by unfold zbK; rw [fV_is (g.memOk c).fn hv]⟩
theorem Good.zeT (c : ByteArray) {m : Sg} (hm : m ∈ zbE t c) : zbt t c m.f0 = false ∧ (mAt t c m.f0).isSome = true ∧ methM t m.f0 (mAt t c m.f0) = m ∧ methC t (mAt t c m.f0) ≠ ⟨#[]⟩ := by
 obtain ⟨h1, h2⟩ := (g.memOk c).at_ m hm
 refine ⟨?_, h1, h2, ?_⟩
 ·
  cases hb : zbt t c m.f0 with
  | false => rfl
  | true => exact absurd (List.mem_map.2 ⟨m, hm, rfl⟩) ((g.memOk c).dj _ ((zcO t c _).1 hb))
 ·
  obtain ⟨p, hp⟩ := Option.isSome_iff_exists.1 h1
  show methC t (mAt t c m.f0) ≠ _
  rw [show mAt t c m.f0 = some p from hp]
  exact g.ne p (zhN hp)
end
theorem zgL (t : List Cl) : ∀ (k : Nat) (pre : List Nat) (nm : ByteArray), LineI t pre → LineI t (pre ++ lineP t k pre nm)
 | 0, pre, nm, h => by simpa [lineP] using h
 | k + 1, pre, nm, h => by
  unfold lineP
  by_cases h1 : idxC nm t 0 < 0
  ·
   rw [if_pos h1]; simpa using h
  ·
   rw [if_neg h1]
   by_cases h2 : (idxC nm t 0).toNat ∈ pre
   ·
    rw [if_pos h2]; simpa using h
   ·
    rw [if_neg h2]
    have := zgL t k _ (clsAt t (idxC nm t 0).toNat).f1 (h.snoc nm h1 h2)
    simpa using this
theorem zio (t : List Cl) (nm : ByteArray) : (supL t nm).length = (lineL t nm).length ∧ (supL t nm).length ≤ t.length := by
 have h := (zgL t (t.length + 1) [] nm (LineI.nil t)).len
 have h1 : (supL t nm).length = (lineL t nm).length := by simp [supL]
 exact ⟨h1, by rw [h1]; simpa [lineL] using h⟩
section
variable {t : List Cl} (g : Good t)
include g
theorem Good.last (nm : ByteArray) : lineL t nm = [] ∨ ∃ z, (lineL t nm).getLast? = some z ∧ z < t.length ∧ (clsAt t z).f1 = ⟨#[]⟩ := by
 refine g.zhL (P := fun nm => lineL t nm = [] ∨ ∃ z, (lineL t nm).getLast? = some z ∧ z < t.length ∧ (clsAt t z).f1 = ⟨#[]⟩) (fun nm h => .inl (zdK h)) (fun i hi ih => .inr ?_) nm
 rw [g.line hi]
 rcases ih with h | ⟨z, h1, h2, h3⟩
 ·
  rw [h]
  refine ⟨i, rfl, hi, ?_⟩
  cases hu : up t i with
  | none => exact g.top hi hu
  | some j =>
   have hj := zcf hu
   rw [hj.2.1, g.line hj.1] at h
   cases h
 ·
  exact ⟨z, by rw [List.getLast?_cons, h1]; rfl, h2, h3⟩
theorem Good.zhm {i : Nat} (hi : i < t.length) : lineL t (clsAt t i).f1 = [] ↔ (clsAt t i).f1 = ⟨#[]⟩ := by
 constructor
 ·
  intro h
  cases hu : up t i with
  | none => exact g.top hi hu
  | some j =>
   have hj := zcf hu
   rw [hj.2.1, g.line hj.1] at h
   cases h
 ·
  intro h; rw [h]; exact zdK g.none_
structure Same (t : List Cl) (a b : ByteArray) (x : Mb) : Prop where
 ar : arN (mem t a) x.f0 = x.f1 ∧ arB (mem t a) x.f0 = true
 ft : zbK t a x.f0 = zbK t b x.f0
 fb : zbt t a x.f0 = zbt t b x.f0
 ms : (mAt t a x.f0).isSome = (mAt t b x.f0).isSome
 rs : (methM t x.f0 (mAt t a x.f0)).f2 = (methM t x.f0 (mAt t b x.f0)).f2
 ln : (methM t x.f0 (mAt t a x.f0)).f1.length = (methM t x.f0 (mAt t b x.f0)).f1.length
 ps : ∀ (k : Nat) (u v : Vr), (methM t x.f0 (mAt t a x.f0)).f1[k]? = some u → (methM t x.f0 (mAt t b x.f0)).f1[k]? = some v → u.f1 = v.f1
omit g in
theorem ze9 {c nm : ByteArray} (h : zbt t c nm = false) : zbK t c nm = z35.f1 := by
 unfold zbK
 rw [(ziS (fun x hx e => by
  have := (zcO t c nm).2 (List.mem_map.2 ⟨x, hx, e⟩)
  rw [h] at this
  cases this)).2]
theorem Good.above {i : Nat} (hi : i < t.length) {x : Mb} (hx : x ∈ mem t (clsAt t i).f1) : Same t (clsAt t i).f0 (clsAt t i).f1 x := by
 have o := g.ownOk hi
 have hm := g.meths hi
 obtain ⟨f1, f2⟩ := foldS (clsAt t i).f3 (zbE t (clsAt t i).f1) (g.memOk _).mn o.ms
 rw [← hm] at f1 f2
 rcases zgr hx with ⟨v, hv, e⟩ | ⟨m, hmm, e⟩
 ·
  subst e
  have hv2 : v ∈ za1 t (clsAt t i).f0 := by rw [g.fields hi]; exact List.mem_append_left _ hv
  obtain ⟨b1, b2, b3⟩ := g.zgX _ hv
  obtain ⟨d1, d2, d3⟩ := g.zgX _ hv2
  have hxm : (⟨v.f0, -1⟩ : Mb) ∈ mem t (clsAt t i).f0 := List.mem_append_left _ (List.mem_map.2 ⟨v, hv2, rfl⟩)
  refine ⟨g.ar _ hxm, d3.trans b3.symm, d1.trans b1.symm, ?_, ?_, ?_, ?_⟩ <;> simp only [b2, d2]
  intro k u w hu hw
  rw [hu] at hw
  cases hw; rfl
 ·
  subst e
  obtain ⟨m', h1, h2, h3, h4, h5⟩ : ∃ m', m' ∈ zbE t (clsAt t i).f0 ∧ m'.f0 = m.f0 ∧ m.f2 = m'.f2 ∧ m.f1.length = m'.f1.length ∧ ∀ (k : Nat) (u v : Vr), m.f1[k]? = some u → m'.f1[k]? = some v → u.f1 = v.f1 := by
   by_cases hn : m.f0 ∈ (clsAt t i).f3.map nmS
   ·
    obtain ⟨m', hm', e⟩ := List.mem_map.1 hn
    replace e : m'.f0 = m.f0 := e
    have ok := o.ok m' hm'
    obtain ⟨_, q1, q2, _⟩ := g.zeT _ hmm
    rw [← e] at q1 q2
    obtain ⟨r1, r2⟩ := ok.over q1
    rw [show methM t m'.f0 (methodAt t m'.f0 (lineL t (clsAt t i).f1)) = m from q2] at r1 r2
    obtain ⟨r3, r4⟩ := zhf r2
    exact ⟨m', (f2 m').2 (.inl hm'), e, r1, r3, r4⟩
   ·
    refine ⟨m, (f2 m).2 (.inr ⟨hmm, hn⟩), rfl, rfl, rfl, fun k u v hu hv => ?_⟩
    rw [hu] at hv
    cases hv; rfl
  obtain ⟨b1, b2, b3, _⟩ := g.zeT _ hmm
  obtain ⟨d1, d2, d3, _⟩ := g.zeT _ h1
  rw [h2] at d1 d2 d3
  have hxm : (⟨m.f0, (m.f1.length : Int)⟩ : Mb) ∈ mem t (clsAt t i).f0 := List.mem_append_right _ (List.mem_map.2 ⟨m', h1, by rw [h2, h4]⟩)
  refine ⟨g.ar _ hxm, (ze9 d1).trans (ze9 b1).symm, d1.trans b1.symm, d2.trans b2.symm, ?_, ?_, ?_⟩
  ·
   show (methM t m.f0 _).f2 = (methM t m.f0 _).f2
   rw [b3, d3]; exact h3.symm
  ·
   show (methM t m.f0 _).f1.length = (methM t m.f0 _).f1.length
   rw [b3, d3]; exact h4.symm
  ·
   show ∀ (k : Nat) (u v : Vr), (methM t m.f0 (mAt t (clsAt t i).f0 m.f0)).f1[k]? = some u → (methM t m.f0 (mAt t (clsAt t i).f1 m.f0)).f1[k]? = some v → u.f1 = v.f1
   rw [b3, d3]
   exact fun k u v hu hv => (h5 k v u hv hu).symm
end
section
variable {t : List Cl} (g : Good t) (ht : TS t)
include g ht
omit g ht in
theorem zhF (a b : ByteArray) (f2 : List Vr) (f3 : List Sg) (L : List Mb) (i : Nat) (p q : List Vr) (n1 r1 n2 r2 : ByteArray) (hp : p.length ≤ 1000) (hpq : p.length = q.length) (hs : ∀ (k : Nat) (u v : Vr), p[k]? = some u → q[k]? = some v → u.f1 = v.f1)
  (hn : Evn (fun k => chaperonlaw05_TableAbove.l0 k t true L (wrap64 ((i : Int) + 1)) a b f2 f3) true) : ∀ (d j : Nat), d = p.length - j → j ≤ p.length → Evn (fun k => chaperonlaw05_TableAbove.l1 k t true L (i : Int) (j : Int) a b f2 f3 n1 p r1 n2 q r2) true := by
 intro d
 induction d with
 | zero =>
  intro j hd hj
  exact Evn.succ (Evn.neg o9 hn)
 | succ d ih =>
  intro j hd hj
  have hjl : j < p.length := by omega
  refine Evn.succ (Evn.pos o9 (Evn.pos o9 (Evn.pos o9 (Evn.pos ?_ ?_))))
  ·
   rw [rdV p j hjl, rdV q j o9, hs j _ _ (List.getElem?_eq_getElem hjl) (List.getElem?_eq_getElem o9)]
  ·
   rw [w1 hjl o9]
   exact ih (j + 1) o9 o9
omit g in
theorem zgH (c nm : ByteArray) : (methM t nm (mAt t c nm)).f1.length ≤ 10 := by
 cases h : mAt t c nm with
 | none => simp [methM, z26]
 | some p =>
  show (zci nm (clsAt t p).f3).f1.length ≤ 10
  rcases zc2 nm (clsAt t p).f3 0 with ⟨h1, _⟩ | ⟨j, x, h1, h2, _⟩
  ·
   unfold zci; rw [if_pos h1]; simp [z26]
  ·
   exact ht.ps _ (zc6 t p (zhN h)) _ (fS_in (List.mem_of_getElem? h1) h2).2.1
theorem zhz {p : Nat} (hp : p < t.length) : ∀ (d i : Nat), d = (mem t (clsAt t p).f1).length - i → i ≤ (mem t (clsAt t p).f1).length →
  Evn (fun k => chaperonlaw05_TableAbove.l0 k t true (mem t (clsAt t p).f1) (i : Int) (clsAt t p).f0 (clsAt t p).f1 (clsAt t p).f2 (clsAt t p).f3) true := by
 have hl := zfz ht.toTB (clsAt t p).f1
 intro d
 induction d with
 | zero => intro i hd hi; exact Evn.succ (Evn.neg o9 (Evn.ret _))
 | succ d ih =>
  intro i hd hi
  have hil : i < (mem t (clsAt t p).f1).length := by omega
  have hn := ih (i + 1) o9 o9
  rw [← w1 hil o9] at hn
  refine Evn.succ (Evn.pos o9 (Evn.pos o9 ?_))
  rw [rdM _ i hil]
  obtain ⟨x, hx⟩ : ∃ x, x = (mem t (clsAt t p).f1)[i] := ⟨_, rfl⟩
  have hxm : x ∈ mem t (clsAt t p).f1 := by rw [hx]; exact List.getElem_mem hil
  rw [← hx]
  have s := g.above hp hxm
  refine Evn.bind (zhn ht.toTB _ x.f0) (Evn.cbind (zgw ht.toTB _ x.f0) (Evn.cbind (zgw ht.toTB _ x.f0) (Evn.cbind (zfV ht.toTB _ x.f0) (Evn.cbind (zfV ht.toTB _ x.f0) ?_))))
  refine Evn.pos s.ar.2 (Evn.pos s.ar.1 (Evn.pos (by show (zbK t _ x.f0).toList = (zbK t _ x.f0).toList; rw [s.ft]) (Evn.neg (by simp [s.fb]) (Evn.neg ?_ (Evn.pos ?_ ?_)))))
  ·
   show ¬ ((mAt t _ x.f0).isSome != (mAt t _ x.f0).isSome) = true
   rw [s.ms]; simp
  ·
   show (methM t x.f0 _).f2.toList = (methM t x.f0 _).f2.toList
   rw [s.rs]
  ·
   refine Evn.succ (Evn.neg ?_ ?_)
   ·
    show ¬ ((((methM t x.f0 (mAt t (clsAt t p).f0 x.f0)).f1.length : Nat) : Int) != (((methM t x.f0 (mAt t (clsAt t p).f1 x.f0)).f1.length : Nat) : Int)) = true
    rw [s.ln]; simp
   ·
    exact zhF _ _ _ _ _ i _ _ _ _ _ _ (Nat.le_trans (zgH ht _ _) d9) s.ln s.ps hn _ 0 rfl o9
end
theorem TableAbove : chaperonlaw05_TableAbove.Pure := by
 intro t a hlen _ ha
 refine Evn.ex (g := fun k => chaperonlaw05_TableAbove.f k t a) ?_
 refine Evn.cbind (a := zaX.f) (v := true) rfl ?_
 obtain ⟨b, h1, h2⟩ := zhl t
 have hj : Evn (fun k => chaperonlaw05_TableAbove.j0 k t a true true) true := Evn.succ (Evn.congr (g' := fun _ => some true) (fun k => rfl) (Evn.ret _))
 refine Evn.bind h1 ?_
 cases b with
 | true => exact Evn.pos rfl hj
 | false =>
  have ht := h2 rfl
  refine Evn.neg s9 ?_
  by_cases h0 : t.length = 0
  ·
   exact Evn.pos o9 hj
  ·
   refine Evn.neg o9 (Evn.bind (zhD ht) ?_)
   by_cases hc : (zb2 t (mem t)).1 = 0 ∧ ((zb2 t (mem t)).2 : Int) = 0
   ·
    have g := ziv hc.1
    rw [hc.1, hc.2]
    show Evn (fun k => chaperonlaw05_TableAbove.j0 k t a true false) true
    have hl := ht.toTB.len
    obtain ⟨p, hp, p0, p1⟩ := ziu a t.length o9 o9 ha
    refine Evn.succ ?_
    show Evn (fun k => (za5.f a (t.length : Int)).bind (fun p => (if 0 ≤ p then (if p < (t.length : Int) then ((za4.f t ((zab t p).f0)).bind fun l => (if (l.length : Int) = 0 then none else (if (l.length : Int) > (t.length : Int) then none else (if 0 < (l.length : Int) then (chaperonlaw05_TableAbove.j1 k t true l ((rdOf ByteArray.empty l 0).toList != ((zab t p).f0).toList) ((zab t p).f0) ((zab t p).f1) ((zab t p).f2) ((zab t p).f3)) else none)))) else none) else none))) true
    refine Evn.cbind (h := fun k p => (if 0 ≤ p then (if p < (t.length : Int) then ((za4.f t ((zab t p).f0)).bind fun l => (if (l.length : Int) = 0 then none else (if (l.length : Int) > (t.length : Int) then none else (if 0 < (l.length : Int) then (chaperonlaw05_TableAbove.j1 k t true l ((rdOf ByteArray.empty l 0).toList != ((zab t p).f0).toList) ((zab t p).f0) ((zab t p).f1) ((zab t p).f2) ((zab t p).f3)) else none)))) else none) else none)) hp (Evn.pos p0 (Evn.pos p1 ?_))
    obtain ⟨i, rfl⟩ : ∃ i : Nat, p = i := ⟨p.toNat, by omega⟩
    have hi : i < t.length := by omega
    have hsl := zio t (clsAt t i).f0
    have hne : lineL t (clsAt t i).f0 ≠ [] := by rw [g.line hi]; simp
    have hpos := List.length_pos_iff.2 hne
    obtain ⟨z, z1, z2, z3⟩ : ∃ z, (lineL t (clsAt t i).f0).getLast? = some z ∧ z < t.length ∧ (clsAt t z).f1 = ⟨#[]⟩ := (g.last (clsAt t i).f0).resolve_left hne
    have hs0 : rdOf ByteArray.empty (supL t (clsAt t i).f0) 0 = (clsAt t i).f0 := by
     unfold supL
     rw [g.line hi]; rfl
    have hlast : rdOf ByteArray.empty (supL t (clsAt t i).f0) (((supL t (clsAt t i).f0).length : Int) - 1) = (clsAt t z).f0 := zf1 z1
    have hw : wrap64 (((supL t (clsAt t i).f0).length : Int) - 1) = ((supL t (clsAt t i).f0).length : Int) - 1 := by unfold wrap64; omega
    have hone : ((supL t (clsAt t i).f0).length : Int) = 1 ↔ (clsAt t i).f1 = ⟨#[]⟩ := by
     rw [← g.zhm hi, hsl.1, g.line hi]
     simp only [List.length_cons]
     constructor
     ·
      intro h; exact List.length_eq_zero_iff.1 o9
     ·
      intro h; rw [h]; rfl
    refine Evn.cbind (a := za4.f t (clsAt t i).f0) (v := supL t (clsAt t i).f0) (by unfold za4.f; rw [if_pos o9]) ?_
    refine Evn.neg o9 (Evn.neg o9 (Evn.pos o9 (Evn.succ (Evn.neg ?_ (Evn.pos (by rw [hw]; omega) (Evn.pos (by rw [hw]; omega) ?_))))))
    ·
     show ¬ ((rdOf ByteArray.empty (supL t (clsAt t i).f0) 0).toList != ((clsAt t i).f0).toList) = true
     rw [hs0]; simp
    rw [hw, hlast]
    have hat : at1 t (clsAt t z).f0 = (z : Int) := by unfold at1; rw [g.first z z2, if_neg o9]
    have his : is1 t (clsAt t z).f0 = true := by unfold is1; rw [g.first z z2]; simp
    refine Evn.cbind (a := zbv.f t (clsAt t z).f0) (v := ((z : Int), true)) (by unfold zbv.f; rw [if_pos o9, hat, his]) ?_
    refine Evn.pos rfl (Evn.neg (by show ¬ ((z : Int) < 0); omega) (Evn.neg (by show ¬ ((z : Int) ≥ (t.length : Int)); omega) (Evn.pos (by show 0 ≤ (z : Int); omega) (Evn.pos (by show (z : Int) < (t.length : Int); omega) (Evn.pos ?_ (Evn.succ (Evn.neg ?_ ?_)))))))
    ·
     show (clsAt t z).f1.toList = []
     rw [z3]; kernel_rfl
    ·
     show ¬ ((((supL t (clsAt t i).f0).length : Int) == 1) != ((clsAt t i).f1.toList == ([] : List UInt8))) = true
     have : ((((supL t (clsAt t i).f0).length : Int) == 1)) = ((clsAt t i).f1.toList == ([] : List UInt8)) := by
      rw [Bool.eq_iff_iff]
      simp only [beq_iff_eq]
      rw [hone]
      exact ⟨fun h => by rw [h]; kernel_rfl, fun h => bl0 h⟩
     rw [this]; simp
    ·
     by_cases hsu : (clsAt t i).f1.toList = []
     ·
      exact Evn.pos hsu (Evn.ret _)
     ·
      exact Evn.neg hsu (Evn.bind (zdo ht.toTB _) (zhz g ht hi _ 0 rfl o9))
   ·
    have : (!((zb2 t (mem t)).1 == 0) || (!(((zb2 t (mem t)).2 : Int) == 0))) = true := by
     simp only [Bool.or_eq_true, Bool.not_eq_true', beq_eq_false_iff_ne]
     exact Classical.byContradiction fun h => hc ⟨Classical.byContradiction fun e => h (.inl e), Classical.byContradiction fun e => h (.inr e)⟩
    rw [this]
    exact hj
end Go.Proofs.YtgcfmllgomikoaaDoor.Pure
end
