/- Parts of the proof of one statement, packed: what the program's functions compute. No conditions. -/
import Derived.Below
import Derived.Test.YtofoegknealilaaDoorKSO2
import Derived.Test.YtofoegknealilaaDoorKSO3
import Derived.Test.YtofoegknealilaaDoorKSO4
import Derived.Test.YtofoegknealilaaDoorKSO1
set_option linter.unusedSimpArgs false
set_option linter.unusedVariables false
set_option maxRecDepth 100000
set_option maxHeartbeats 8000000
section
namespace Go.Proofs.YtofoegknealilaaDoorEv
def Evn {α : Type} (g : Nat → Option α) (v : α) : Prop := ∃ K, ∀ k, K ≤ k → g k = some v
section
variable {α β : Type}
theorem Evn.ret (v : α) : Evn (fun _ => some v) v := ⟨0, fun _ _ => rfl⟩
theorem Evn.const {a : Option α} {v : α} (h : a = some v) : Evn (fun _ => a) v := ⟨0, fun _ _ => h⟩
theorem Evn.bind {g : Nat → Option α} {h : Nat → α → Option β} {a : α} {b : β} (hg : Evn g a) (hh : Evn (fun k => h k a) b) : Evn (fun k => (g k).bind fun x => h k x) b := by
 obtain ⟨K1, h1⟩ := hg
 obtain ⟨K2, h2⟩ := hh
 exact ⟨max K1 K2, fun k hk => by show (g k).bind (fun x => h k x) = some b; rw [h1 k o9]; exact h2 k o9⟩
theorem Evn.cbind {a : Option α} {h : Nat → α → Option β} {v : α} {b : β} (ha : a = some v) (hh : Evn (fun k => h k v) b) : Evn (fun k => a.bind fun x => h k x) b := by
 subst ha
 exact hh
theorem Evn.succ {g : Nat → Option α} {v : α} (h : Evn (fun k => g (k + 1)) v) : Evn g v := by
 obtain ⟨K, h⟩ := h
 exact ⟨K + 1, fun k hk => by
  obtain ⟨j, rfl⟩ : ∃ j, k = j + 1 := ⟨k - 1, by omega⟩
  exact h j o9⟩
theorem Evn.congr {g g' : Nat → Option α} {v : α} (e : ∀ k, g k = g' k) (h : Evn g' v) : Evn g v := by
 obtain ⟨K, h⟩ := h
 exact ⟨K, fun k hk => (e k).trans (h k hk)⟩
theorem Evn.pos {p : Prop} [Decidable p] {g h : Nat → Option α} {v : α} (hp : p) (hg : Evn g v) : Evn (fun k => if p then g k else h k) v := Evn.congr (fun k => if_pos hp) hg
theorem Evn.neg {p : Prop} [Decidable p] {g h : Nat → Option α} {v : α} (hp : ¬ p) (hg : Evn h v) : Evn (fun k => if p then g k else h k) v := Evn.congr (fun k => if_neg hp) hg
theorem Evn.ex {g : Nat → Option α} {v : α} (h : Evn g v) : ∃ k, g k = some v := by
 obtain ⟨K, h⟩ := h
 exact ⟨K, h K (Nat.le_refl _)⟩
theorem Evn.of {g : Nat → Option α} {v : α} (K : Nat) (h : ∀ k, K ≤ k → g k = some v) : Evn g v := ⟨K, h⟩
theorem Evn.val {g : Nat → Option α} {v v' : α} (h : Evn g v) (e : v = v') : Evn g v' := e ▸ h
end
end Go.Proofs.YtofoegknealilaaDoorEv
end

section
namespace Go.Proofs.YtofoegknealilaaDoor.Pure
open Go.RowKit Go.Proofs.YtofoegknealilaaDoor.PAll Go.Proofs.YtofoegknealilaaDoorW.PrintWords Go.Proofs.YtofoegknealilaaDoorW.PrintLast Go.Proofs.YtofoegknealilaaDoorEv Go.Proofs.YtofoegknealilaaDoorTab Go.Proofs.YtofoegknealilaaDoorWords
abbrev Cl := S44
abbrev Mb := S50
abbrev Vr := S74
abbrev Sg := S57
theorem w1 {i n : Nat} (h : i < n) (hn : n < 4398046511104) : wrap64 ((i : Int) + 1) = ((i + 1 : Nat) : Int) := by unfold wrap64; omega
theorem rdV (l : List (S74)) (i : Nat) (h : i < l.length) : za2 l (i : Int) = l[i] := by
 unfold za2
 rw [Int.toNat_natCast, List.getD_eq_getElem?_getD, List.getElem?_eq_getElem h]; rfl
theorem rdS (l : List (S57)) (i : Nat) (h : i < l.length) : zaV l (i : Int) = l[i] := by
 unfold zaV
 rw [Int.toNat_natCast, List.getD_eq_getElem?_getD, List.getElem?_eq_getElem h]; rfl
structure TB (t : List Cl) : Prop where
 len : t.length ≤ 9
 fs : ∀ c ∈ t, c.f2.length ≤ 7
 ms : ∀ c ∈ t, c.f3.length ≤ 7
 ps : ∀ c ∈ t, ∀ m ∈ c.f3, m.f1.length ≤ 10
theorem zcB (t : List Cl) : ∀ (k : Nat) (pre : List Nat) (nm : ByteArray), (lineP t k pre nm).length ≤ k
 | 0, _, _ => by simp [lineP]
 | k + 1, pre, nm => by
  unfold lineP
  split
  ·
   simp
  ·
   split
   ·
    simp
   ·
    have := zcB t k
    simp only [List.length_cons]
    have h1 := this (pre ++ [(idxC nm t 0).toNat]) (clsAt t (idxC nm t 0).toNat).f1
    omega
theorem zdB (t : List Cl) (p : Nat) (h : p < t.length) : clsAt t p ∈ t := by
 unfold clsAt zal
 rw [Int.toNat_natCast, List.getD_eq_getElem?_getD, List.getElem?_eq_getElem h]
 exact List.getElem_mem h
theorem zei {α : Type} (f : Nat → List α) (b : Nat) : ∀ (l : List Nat), (∀ p ∈ l, (f p).length ≤ b) → (l.flatMap f).length ≤ l.length * b
 | [], _ => by simp
 | x :: r, h => by
  have h1 := zei f b r (fun p hp => h p (List.mem_cons_of_mem _ hp))
  have h2 := h x List.mem_cons_self
  simp only [List.flatMap_cons, List.length_append, List.length_cons]
  rw [Nat.succ_mul]; omega
section
variable {t : List Cl} (ht : TB t)
include ht
theorem TB.line (c : ByteArray) : (lineL t c).length ≤ 10 := by
 have := zcB t (t.length + 1) [] c
 have h := ht.len
 unfold lineL; omega
theorem TB.fields (c : ByteArray) : (zbm t c).length ≤ 70 := by
 have h1 := ht.line c
 have h2 := zei (fun p => (clsAt t p).f2) 7 (lineL t c).reverse (fun p hp => ht.fs _ (zdB t p (zbS t _ _ _ _ (List.mem_reverse.1 hp))))
 rw [List.length_reverse] at h2
 exact Nat.le_trans h2 o9
theorem TB.all (c : ByteArray) : zaY.all t c ≤ 70 := by
 have h1 := ht.line c
 have h2 := zei (fun p => (clsAt t p).f3) 7 (lineL t c).reverse (fun p hp => ht.ms _ (zdB t p (zbS t _ _ _ _ (List.mem_reverse.1 hp))))
 rw [List.length_reverse] at h2
 exact Nat.le_trans h2 o9
theorem TB.small : zaY.small t = true := by
 unfold zaY.small
 have h := ht.len
 simp only [Bool.and_eq_true, decide_eq_true_eq, List.all_eq_true]
 exact ⟨by omega, fun x hx => ⟨by have := ht.ms x hx; omega, fun m hm => by have := ht.ps x hx m hm; omega⟩⟩
end
theorem zer (out : List (S57)) (m : S57) : (putS out m).length ≤ out.length + 1 := by
 unfold putS
 split <;> simp
theorem zfu : ∀ (l out : List (S57)), (l.foldl putS out).length ≤ out.length + l.length
 | [], out => by simp
 | m :: r, out => by
  have h1 := zfu r (putS out m)
  have h2 := zer out m
  simp only [List.foldl_cons, List.length_cons]; omega
theorem TB.meths {t : List Cl} (ht : TB t) (c : ByteArray) : (zcf t c).length ≤ 70 := by
 have h1 := zfu ((lineL t c).reverse.flatMap fun p => (clsAt t p).f3) []
 have h2 := ht.all c
 unfold zaY.all at h2
 unfold zcf zfv
 simp only [List.length_nil] at h1; omega
def mem (t : List Cl) (c : ByteArray) : List Mb := (zbm t c).map (fun v => ⟨v.f0, -1⟩) ++ (zcf t c).map (fun m => ⟨m.f0, (m.f1.length : Int)⟩)
theorem zgH (o : List Mb) (l : List (S57)) (hl : l.length ≤ 70) : ∀ (d i : Nat) (x : List Mb), d = l.length - i → i ≤ l.length → x.length ≤ 70 + i → Evn (fun k => zaF.l1 k x l (l.length : Int) (i : Int)) (x ++ (l.drop i).map (fun m => ⟨m.f0, (m.f1.length : Int)⟩)) := by
 intro d
 induction d with
 | zero =>
  intro i x hd hi hx
  refine Evn.succ (Evn.neg o9 ((Evn.ret _).val ?_))
  rw [List.drop_eq_nil_of_le o9]; simp
 | succ d ih =>
  intro i x hd hi hx
  have h : i < l.length := by omega
  rw [List.drop_eq_getElem_cons h]
  refine Evn.succ (Evn.pos o9 (Evn.pos o9 (Evn.pos o9 (Evn.pos o9 ?_))))
  rw [rdS l i h, w1 h o9]
  refine (ih (i + 1) (x ++ [⟨l[i].f0, (l[i].f1.length : Int)⟩]) o9 o9 (by simp; omega)).val ?_
  simp only [List.append_assoc, List.map_cons, List.cons_append, List.nil_append]
theorem zg1 (t : List Cl) (ht : TB t) (c : ByteArray) (l : List (S74)) (hl : l.length ≤ 70) : ∀ (d i : Nat) (x : List Mb), d = l.length - i → i ≤ l.length → x.length ≤ i → Evn (fun k => zaF.l0 k t c x l (l.length : Int) (i : Int)) (x ++ (l.drop i).map (fun v => ⟨v.f0, -1⟩) ++ (zcf t c).map (fun m => ⟨m.f0, (m.f1.length : Int)⟩)) := by
 intro d
 induction d with
 | zero =>
  intro i x hd hi hx
  refine Evn.succ (Evn.neg o9 (Evn.cbind (a := zaY.f t c) (v := zcf t c) ?_ ?_))
  ·
   unfold zaY.f
   rw [if_pos ⟨ht.small, by have := ht.all c; omega⟩]
  ·
   refine (zgH [] (zcf t c) (ht.meths c) _ 0 x rfl o9 o9).val ?_
   rw [List.drop_eq_nil_of_le (show l.length ≤ i by omega)]; simp
 | succ d ih =>
  intro i x hd hi hx
  have h : i < l.length := by omega
  rw [List.drop_eq_getElem_cons h]
  refine Evn.succ (Evn.pos o9 (Evn.pos o9 (Evn.pos o9 (Evn.pos o9 ?_))))
  rw [rdV l i h, w1 h o9]
  refine (ih (i + 1) (x ++ [⟨l[i].f0, -1⟩]) o9 o9 (by simp; omega)).val ?_
  simp only [List.append_assoc, List.map_cons, List.cons_append, List.nil_append]
theorem zfW {t : List Cl} (ht : TB t) (c : ByteArray) : Evn (fun k => zaF.f k t c) (mem t c) := by
 refine Evn.cbind (a := zbz.f t c) (v := zbm t c) ?_ ?_
 ·
  unfold zbz.f
  rw [if_pos ⟨by have := ht.len; omega, by have := ht.fields c; omega⟩]
 ·
  refine (zg1 t ht c (zbm t c) (ht.fields c) _ 0 [] rfl o9 s9).val ?_
  simp [mem]
theorem zhA {t : List Cl} (ht : TB t) (c : ByteArray) : (mem t c).length ≤ 140 := by
 have h1 := ht.fields c
 have h2 := ht.meths c
 simp only [mem, List.length_append, List.length_map]; omega
theorem rdC (l : List Cl) (i : Nat) (h : i < l.length) : zal l (i : Int) = l[i] := by
 unfold zal
 rw [Int.toNat_natCast, List.getD_eq_getElem?_getD, List.getElem?_eq_getElem h]; rfl
theorem zfH (l : List Vr) (hl : l.length ≤ 1000) : ∀ (d i : Nat), d = l.length - i → i ≤ l.length → (∀ j, j < i → ∀ h : j < l.length, l[j].f0.size ≤ 30 ∧ l[j].f1.size ≤ 30) →
  ∃ b, Evn (fun k => zaz.l0 k l (i : Int)) b ∧ (b = false → ∀ v ∈ l, v.f0.size ≤ 30 ∧ v.f1.size ≤ 30) := by
 intro d
 induction d with
 | zero =>
  intro i hd hi hb
  refine ⟨false, Evn.succ (Evn.neg o9 (Evn.ret _)), fun _ x hx => ?_⟩
  obtain ⟨j, hj, rfl⟩ := List.getElem_of_mem hx
  exact hb j o9 hj
 | succ d ih =>
  intro i hd hi hb
  have h : i < l.length := by omega
  by_cases h0 : ((l[i].f0.size : Nat) : Int) > 30
  ·
   exact ⟨true, Evn.succ (Evn.pos o9 (Evn.pos o9 (Evn.pos (by rw [rdV l i h]; exact h0) (Evn.ret _)))), fun h => by cases h⟩
  by_cases h1 : ((l[i].f1.size : Nat) : Int) > 30
  ·
   exact ⟨true, Evn.succ (Evn.pos o9 (Evn.pos o9 (Evn.neg (by rw [rdV l i h]; exact h0) (Evn.pos (by rw [rdV l i h]; exact h1) (Evn.ret _))))), fun h => by cases h⟩
  obtain ⟨b, h3, h4⟩ := ih (i + 1) o9 o9 fun j hj hjl => by
   rcases Nat.lt_or_ge j i with h3 | h3
   ·
    exact hb j h3 hjl
   ·
    obtain rfl : j = i := by omega
    omega
  refine ⟨b, Evn.succ (Evn.pos o9 (Evn.pos o9 (Evn.neg (by rw [rdV l i h]; exact h0) (Evn.neg (by rw [rdV l i h]; exact h1) ?_)))), h4⟩
  rw [w1 h o9]; exact h3
theorem zdA (l : List Vr) (hl : l.length ≤ 1000) : ∃ b, Evn (fun k => zaz.f k l) b ∧ (b = false → ∀ v ∈ l, v.f0.size ≤ 30 ∧ v.f1.size ≤ 30) := zfH l hl l.length 0 o9 o9 fun j hj => by omega
def okM (m : Sg) : Prop := m.f0.size ≤ 30 ∧ m.f2.size ≤ 30 ∧ m.f1.length ≤ 10 ∧ ∀ v ∈ m.f1, v.f0.size ≤ 30 ∧ v.f1.size ≤ 30
def okC (c : Cl) : Prop := c.f0.size ≤ 30 ∧ c.f1.size ≤ 30 ∧ c.f2.length ≤ 7 ∧ c.f3.length ≤ 7 ∧ (∀ v ∈ c.f2, v.f0.size ≤ 30 ∧ v.f1.size ≤ 30) ∧ ∀ m ∈ c.f3, okM m
theorem zia (t : List Cl) (i : Nat) (b' : Bool) (hn : Evn (fun k => zah.l0 k t (wrap64 ((i : Int) + 1))) b') (n s : ByteArray) (fs : List Vr) (ms : List Sg) (hm : ms.length ≤ 7) : ∀ (d j : Nat), d = ms.length - j → j ≤ ms.length → (∀ q, q < j → ∀ h : q < ms.length, okM ms[q]) →
  ∃ b, Evn (fun k => zah.l1 k t (i : Int) (j : Int) n s fs ms) b ∧ (b = false → b' = false ∧ ∀ m ∈ ms, okM m) := by
 intro d
 induction d with
 | zero =>
  intro j hd hj hb
  refine ⟨b', Evn.succ (Evn.neg o9 hn), fun e => ⟨e, fun x hx => ?_⟩⟩
  obtain ⟨q, hq, rfl⟩ := List.getElem_of_mem hx
  exact hb q o9 hq
 | succ d ih =>
  intro j hd hj hb
  have h : j < ms.length := by omega
  by_cases h0 : ((ms[j].f0.size : Nat) : Int) > 30
  ·
   exact ⟨true, Evn.succ (Evn.pos o9 (Evn.pos o9 (Evn.pos (by rw [rdS ms j h]; exact h0) (Evn.ret _)))), fun h => by cases h⟩
  by_cases h1 : ((ms[j].f2.size : Nat) : Int) > 30
  ·
   exact ⟨true, Evn.succ (Evn.pos o9 (Evn.pos o9 (Evn.neg (by rw [rdS ms j h]; exact h0) (Evn.pos (by rw [rdS ms j h]; exact h1) (Evn.ret _))))), fun h => by cases h⟩
  by_cases h2 : ((ms[j].f1.length : Nat) : Int) > 10
  ·
   exact ⟨true, Evn.succ (Evn.pos o9 (Evn.pos o9 (Evn.neg (by rw [rdS ms j h]; exact h0) (Evn.neg (by rw [rdS ms j h]; exact h1) (Evn.pos (by rw [rdS ms j h]; exact h2) (Evn.ret _)))))), fun h => by cases h⟩
  obtain ⟨v, h3, h4⟩ := zdA ms[j].f1 o9
  rw [← rdS ms j h] at h3
  cases v with
  | true => exact ⟨true, Evn.succ (Evn.pos o9 (Evn.pos o9 (Evn.neg (by rw [rdS ms j h]; exact h0) (Evn.neg (by rw [rdS ms j h]; exact h1) (Evn.neg (by rw [rdS ms j h]; exact h2) (Evn.bind h3 (Evn.pos rfl (Evn.ret _)))))))), fun h => by cases h⟩
  | false =>
   obtain ⟨b, h5, h6⟩ := ih (j + 1) o9 o9 fun q hq hql => by
    rcases Nat.lt_or_ge q j with h3 | h3
    ·
     exact hb q h3 hql
    ·
     obtain rfl : q = j := by omega
     exact ⟨by omega, by omega, by omega, h4 rfl⟩
   refine ⟨b, Evn.succ (Evn.pos o9 (Evn.pos o9 (Evn.neg (by rw [rdS ms j h]; exact h0) (Evn.neg (by rw [rdS ms j h]; exact h1) (Evn.neg (by rw [rdS ms j h]; exact h2) (Evn.bind h3 (Evn.neg s9 ?_))))))), h6⟩
   rw [w1 h o9]; exact h5
theorem zhL (t : List Cl) : ∀ (d i : Nat), d = 10 - i → i ≤ 10 → i ≤ t.length →
  ∃ b, Evn (fun k => zah.l0 k t (i : Int)) b ∧ (b = false → t.length ≤ 9 ∧ ∀ j, i ≤ j → ∀ h : j < t.length, okC t[j]) := by
 intro d
 induction d with
 | zero =>
  intro i hd hi hil
  obtain rfl : i = 10 := by omega
  by_cases h : (10 : Int) < (t.length : Int)
  ·
   refine ⟨true, Evn.succ (Evn.pos h (Evn.succ (Evn.congr (g' := fun _ => some (decide ((t.length : Int) > 9))) (fun k => rfl) ((Evn.ret _).val ?_)))), fun h => by cases h⟩
   simp; omega
  ·
   refine ⟨true, Evn.succ (Evn.neg h (Evn.succ (Evn.congr (g' := fun _ => some (decide ((t.length : Int) > 9))) (fun k => rfl) ((Evn.ret _).val ?_)))), fun h => by cases h⟩
   simp; omega
 | succ d ih =>
  intro i hd hi hil
  by_cases h : i < t.length
  ·
   have hs : ∀ {b : Bool}, Evn (fun k => if (0 : Int) ≤ (i : Int) then (if (i : Int) < (t.length : Int) then (if (((zal t (i : Int)).f0).size : Int) > 30 then (zah.j2 k t (i : Int) true ((zal t (i : Int)).f0) ((zal t (i : Int)).f1) ((zal t (i : Int)).f2) ((zal t (i : Int)).f3)) else (if (((zal t (i : Int)).f1).size : Int) > 30 then (zah.j2 k t (i : Int) true ((zal t (i : Int)).f0) ((zal t (i : Int)).f1) ((zal t (i : Int)).f2) ((zal t (i : Int)).f3)) else (if (((zal t (i : Int)).f2).length : Int) > 7 then (zah.j2 k t (i : Int) true ((zal t (i : Int)).f0) ((zal t (i : Int)).f1) ((zal t (i : Int)).f2) ((zal t (i : Int)).f3)) else (if (((zal t (i : Int)).f3).length : Int) > 7 then (zah.j2 k t (i : Int) true ((zal t (i : Int)).f0) ((zal t (i : Int)).f1) ((zal t (i : Int)).f2) ((zal t (i : Int)).f3)) else ((zaz.f k ((zal t (i : Int)).f2)).bind fun t265 => (zah.j2 k t (i : Int) t265 ((zal t (i : Int)).f0) ((zal t (i : Int)).f1) ((zal t (i : Int)).f2) ((zal t (i : Int)).f3))))))) else (none)) else (none)) b →
     Evn (fun k => zah.l0 k t (i : Int)) b := fun hh => Evn.succ (Evn.pos o9 (Evn.succ (Evn.pos (by simp; omega) hh)))
   have hj : ∀ (n s : ByteArray) (fs : List Vr) (ms : List Sg), Evn (fun k => zah.j2 k t (i : Int) true n s fs ms) true := fun n s fs ms => Evn.succ (Evn.congr (g' := fun _ => some true) (fun k => rfl) (Evn.ret _))
   rw [rdC t i h] at hs
   by_cases h0 : ((t[i].f0.size : Nat) : Int) > 30
   ·
    exact ⟨true, hs (Evn.pos o9 (Evn.pos o9 (Evn.pos h0 (hj _ _ _ _)))), fun h => by cases h⟩
   by_cases h1 : ((t[i].f1.size : Nat) : Int) > 30
   ·
    exact ⟨true, hs (Evn.pos o9 (Evn.pos o9 (Evn.neg h0 (Evn.pos h1 (hj _ _ _ _))))), fun h => by cases h⟩
   by_cases h2 : ((t[i].f2.length : Nat) : Int) > 7
   ·
    exact ⟨true, hs (Evn.pos o9 (Evn.pos o9 (Evn.neg h0 (Evn.neg h1 (Evn.pos h2 (hj _ _ _ _)))))), fun h => by cases h⟩
   by_cases h3 : ((t[i].f3.length : Nat) : Int) > 7
   ·
    exact ⟨true, hs (Evn.pos o9 (Evn.pos o9 (Evn.neg h0 (Evn.neg h1 (Evn.neg h2 (Evn.pos h3 (hj _ _ _ _))))))), fun h => by cases h⟩
   obtain ⟨v, h4, h5⟩ := zdA t[i].f2 o9
   cases v with
   | true => exact ⟨true, hs (Evn.pos o9 (Evn.pos o9 (Evn.neg h0 (Evn.neg h1 (Evn.neg h2 (Evn.neg h3 (Evn.bind h4 (hj _ _ _ _)))))))), fun h => by cases h⟩
   | false =>
    obtain ⟨b', h6, h7⟩ := ih (i + 1) o9 o9 o9
    rw [← w1 (show i < 10 by omega) o9] at h6
    obtain ⟨b, h8, h9⟩ := zia t i b' h6 t[i].f0 t[i].f1 t[i].f2 t[i].f3 o9 t[i].f3.length 0 o9 o9 (fun q hq => by omega)
    refine ⟨b, hs (Evn.pos o9 (Evn.pos o9 (Evn.neg h0 (Evn.neg h1 (Evn.neg h2 (Evn.neg h3 (Evn.bind h4 (Evn.succ (Evn.congr (fun k => rfl) h8))))))))), fun e => ?_⟩
    obtain ⟨e1, e2⟩ := h9 e
    obtain ⟨e3, e4⟩ := h7 e1
    refine ⟨e3, fun j hj hjl => ?_⟩
    rcases Nat.eq_or_lt_of_le hj with rfl | hj
    ·
     exact ⟨by omega, by omega, by omega, by omega, h5 rfl, e2⟩
    ·
     exact e4 j hj hjl
  ·
   refine ⟨decide ((t.length : Int) > 9), Evn.succ (Evn.neg o9 (Evn.succ (Evn.congr (fun k => rfl) (Evn.ret _)))), fun e => ⟨by have := of_decide_eq_false e; omega, fun j hj hjl => by omega⟩⟩
structure TS (t : List Cl) : Prop extends TB t where
 ok : ∀ c ∈ t, okC c
theorem zgR (t : List Cl) : ∃ b, Evn (fun k => zah.f k t) b ∧ (b = false → TS t) := by
 obtain ⟨b, h1, h2⟩ := zhL t 10 0 rfl o9 o9
 refine ⟨b, h1, fun e => ?_⟩
 obtain ⟨h3, h4⟩ := h2 e
 have h5 : ∀ c ∈ t, okC c := fun c hc => by
  obtain ⟨j, hj, rfl⟩ := List.getElem_of_mem hc
  exact h4 j o9 hj
 exact { len := h3, fs := fun c hc => (h5 c hc).2.2.1, ms := fun c hc => (h5 c hc).2.2.2.1, ps := fun c hc m hm => ((h5 c hc).2.2.2.2.2 m hm).2.2.1, ok := h5 }
theorem bl {a b : ByteArray} (h : a.toList = b.toList) : a = b := toList_inj h
structure Good (t : List Cl) : Prop where
 siz : ∀ i, i < t.length → zdr t i = 0
 lin : ∀ i, i < t.length → zd1 t i = 0
 own : ∀ i, i < t.length → ownF t (mem t (clsAt t i).f1) i = 0
theorem zd0 (f : Nat → Int) : ∀ l : List Nat, scanL f l = none → ∀ i ∈ l, f i = 0
 | [], _, i, hi => by cases hi
 | x :: r, h, i, hi => by
  unfold scanL at h
  by_cases hx : f x = 0
  ·
   rw [if_pos hx] at h
   rcases List.mem_cons.1 hi with rfl | hi
   ·
    exact hx
   ·
    exact zd0 f r h i hi
  ·
   rw [if_neg hx] at h; cases h
theorem zc9 (f : Nat → Int) : ∀ (l : List Nat) (i : Nat), scanL f l = some i → ¬ f i = 0
 | [], i, h => by cases h
 | x :: r, i, h => by
  unfold scanL at h
  by_cases hx : f x = 0
  ·
   rw [if_pos hx] at h; exact zc9 f r i h
  ·
   rw [if_neg hx] at h; cases h; exact hx
theorem zfz (t : List Cl) (mb : ByteArray → List Mb) : ∀ ks : List Nat, (zb2 t mb ks).1 = 0 → ∀ k ∈ ks, ∀ i, i < t.length → lookF t mb k i = 0
 | [], _, k, hk => by cases hk
 | k0 :: r, h, k, hk => by
  unfold zb2 at h
  cases hs : scanL (lookF t mb k0) (List.range t.length) with
  | some j => rw [hs] at h; exact absurd h (zc9 _ _ _ hs)
  | none =>
   rw [hs] at h
   rcases List.mem_cons.1 hk with rfl | hk
   ·
    exact fun i hi => zd0 _ _ hs i (List.mem_range.2 hi)
   ·
    exact zfz t mb r h k hk
theorem zhJ {t : List Cl} (h : (zbR t (mem t)).1 = 0) : Good t := by
 unfold zbR at h
 by_cases h40 : 40 < t.length
 ·
  rw [if_pos h40] at h; exact absurd h d9
 ·
  rw [if_neg h40] at h
  have h1 := zfz t (mem t) [0, 1, 2] h
  exact ⟨fun i hi => h1 0 s9 i hi, fun i hi => h1 1 s9 i hi, fun i hi => h1 2 s9 i hi⟩
theorem ix_le (s : ByteArray) : ∀ (l : List Cl) (i j : Nat), j < l.length → (clsAt l j).f0 = s → 0 ≤ idxC s l i ∧ idxC s l i ≤ ((i + j : Nat) : Int)
 | [], i, j, h, _ => by simp at h
 | x :: r, i, 0, _, h => by
  have hx : x.f0 = s := h
  unfold idxC
  rw [if_pos (by rw [hx])]
  omega
 | x :: r, i, j + 1, hj, h => by
  rw [zdW] at h
  unfold idxC
  by_cases hx : x.f0.toList = s.toList
  ·
   rw [if_pos hx]; omega
  ·
   rw [if_neg hx]
   have := ix_le s r (i + 1) j (by simpa using hj) h
   omega
section
variable {t : List Cl} (g : Good t)
include g
theorem Good.grt (i : Nat) (hi : i < t.length) : word great (clsAt t i).f0 = true := by
 have h := g.siz i hi
 unfold zdr at h
 cases hw : word great (clsAt t i).f0 with
 | true => rfl
 | false => rw [if_pos hw] at h; exact absurd h d9
theorem Good.first (i : Nat) (hi : i < t.length) : idxC (clsAt t i).f0 t 0 = (i : Int) := by
 have h := g.siz i hi
 unfold zdr at h
 rw [if_neg (by rw [g.grt i hi]; decide)] at h
 have h1 := ix_le (clsAt t i).f0 t 0 i hi rfl
 by_cases h2 : at1 t (clsAt t i).f0 < (i : Int)
 ·
  rw [if_pos h2] at h; exact absurd h d9
 ·
  unfold at1 at h2
  rw [if_neg o9] at h2
  omega
theorem Good.ne (i : Nat) (hi : i < t.length) : (clsAt t i).f0 ≠ ⟨#[]⟩ := fun e => by
 have h := g.grt i hi
 rw [e] at h
 unfold word at h
 exact absurd h d9
theorem Good.none_ : idxC ⟨#[]⟩ t 0 < 0 := by
 refine Classical.byContradiction fun h => ?_
 obtain ⟨h1, h2, _⟩ := zbZ ⟨#[]⟩ t h
 exact g.ne _ h1 (bl h2)
end
def up (t : List Cl) (i : Nat) : Option Nat := if idxC (clsAt t i).f1 t 0 < 0 then none else some (idxC (clsAt t i).f1 t 0).toNat
theorem zct {t : List Cl} {i j : Nat} (h : up t i = some j) : j < t.length ∧ (clsAt t i).f1 = (clsAt t j).f0 ∧ idxC (clsAt t i).f1 t 0 = (j : Int) := by
 unfold up at h
 by_cases h1 : idxC (clsAt t i).f1 t 0 < 0
 ·
  rw [if_pos h1] at h; cases h
 ·
  rw [if_neg h1] at h
  cases h
  obtain ⟨h2, h3, _⟩ := zbZ _ t h1
  exact ⟨h2, (bl h3).symm, by omega⟩
theorem zej {t : List Cl} {i : Nat} (h : up t i = none) : idxC (clsAt t i).f1 t 0 < 0 := by
 unfold up at h
 by_cases h1 : idxC (clsAt t i).f1 t 0 < 0
 ·
  exact h1
 ·
  rw [if_neg h1] at h; cases h
def it (t : List Cl) : Nat → Nat → Option Nat
 | 0, i => some i
 | k + 1, i => (up t i).bind (it t k)
theorem zcu (t : List Cl) : ∀ (a b i : Nat), it t (a + b) i = (it t a i).bind (it t b)
 | 0, b, i => by rw [Nat.zero_add]; rfl
 | a + 1, b, i => by
  rw [Nat.add_right_comm]
  show (up t i).bind (it t (a + b)) = ((up t i).bind (it t a)).bind (it t b)
  cases up t i with
  | none => rfl
  | some j => exact zcu t a b j
theorem it_lt (t : List Cl) : ∀ (a i j : Nat), i < t.length → it t a i = some j → j < t.length
 | 0, i, j, hi, h => by cases h; exact hi
 | a + 1, i, j, hi, h => by
  obtain ⟨m, h1, h2⟩ := Option.bind_eq_some_iff.1 h
  exact it_lt t a m j (zct h1).1 h2
theorem zed {t : List Cl} {p i : Nat} (hp : 1 ≤ p) (h : it t p i = some i) : ∀ m, (it t m i).isSome = true := by
 intro m
 induction m using Nat.strongRecOn with
 | _ m ih =>
  rcases Nat.lt_or_ge m p with hm | hm
  ·
   have h1 := zcu t m (p - m) i
   rw [show m + (p - m) = p by omega, h] at h1
   cases hx : it t m i with
   | none => rw [hx] at h1; cases h1
   | some _ => rfl
  ·
   have h1 := zcu t p (m - p) i
   rw [show p + (m - p) = m by omega, h] at h1
   rw [h1]
   exact ih (m - p) o9
def path (t : List Cl) : Nat → Nat → List Nat
 | 0, i => [i]
 | k + 1, i => i :: (match up t i with | none => [] | some j => path t k j)
theorem zcM (t : List Cl) (k : Nat) (pre : List Nat) (nm : ByteArray) (h : idxC nm t 0 < 0) : lineP t k pre nm = [] := by
 cases k with
 | zero => rfl
 | succ k => unfold lineP; rw [if_pos h]
theorem zeG (t : List Cl) : ∀ (k i : Nat) (pre : List Nat) (fuel : Nat) (nm : ByteArray), idxC nm t 0 = (i : Int) → it t (k + 1) i = none → (∀ q ∈ pre, ∀ j, it t j i ≠ some q) → k < fuel → lineP t fuel pre nm = path t k i := by
 intro k
 induction k with
 | zero =>
  intro i pre fuel nm hn hd hp hf
  obtain ⟨f, rfl⟩ : ∃ f, fuel = f + 1 := ⟨fuel - 1, by omega⟩
  unfold lineP
  rw [if_neg o9, hn, Int.toNat_natCast, if_neg (fun h => hp i h 0 rfl)]
  have hu : up t i = none := by
   cases hu : up t i with
   | none => rfl
   | some j => simp [it, hu] at hd
  rw [zcM t _ _ _ (zej hu)]
  rfl
 | succ k ih =>
  intro i pre fuel nm hn hd hp hf
  obtain ⟨f, rfl⟩ : ∃ f, fuel = f + 1 := ⟨fuel - 1, by omega⟩
  unfold lineP
  rw [if_neg o9, hn, Int.toNat_natCast, if_neg (fun h => hp i h 0 rfl)]
  unfold path
  cases hu : up t i with
  | none => rw [zcM t _ _ _ (zej hu)]
  | some j =>
   have hd' : it t (k + 1) j = none := by
    have : it t (k + 1 + 1) i = (up t i).bind (it t (k + 1)) := rfl
    rw [this, hu] at hd
    exact hd
   have hs : ∀ a, it t (a + 1) i = it t a j := fun a => by
    show (up t i).bind (it t a) = _
    rw [hu]; rfl
   rw [ih j (pre ++ [i]) f _ (zct hu).2.2 hd' (fun q hq a ha => ?_) o9]
   rcases List.mem_append.1 hq with hq | hq
   ·
    exact hp q hq (a + 1) ((hs a).trans ha)
   ·
    rw [List.mem_singleton] at hq
    subst hq
    have := zed (p := a + 1) o9 ((hs a).trans ha) (k + 1 + 1)
    rw [hd] at this
    cases this
theorem zeO (t : List Cl) : ∀ (k i : Nat), it t (k + 1) i = none → path t (k + 1) i = path t k i
 | 0, i, h => by
  have hu : up t i = none := by
   cases hu : up t i with
   | none => rfl
   | some j => simp [it, hu] at h
  simp [path, hu]
 | k + 1, i, h => by
  show i :: _ = i :: _
  cases hu : up t i with
  | none => rfl
  | some j =>
   have h' : it t (k + 1) j = none := by
    have : it t (k + 1 + 1) i = (up t i).bind (it t (k + 1)) := rfl
    rw [this, hu] at h
    exact h
   show i :: path t (k + 1) j = i :: path t k j
   rw [zeO t k j h']
theorem zhy {t : List Cl} {s : Nat} : ∀ p, 1 ≤ p → it t p s = some s → ∃ p, 1 ≤ p ∧ it t p s = some s ∧ ∀ q, 1 ≤ q → q < p → it t q s ≠ some s := by
 intro p
 induction p using Nat.strongRecOn with
 | _ p ih =>
  intro hp h
  by_cases hm : ∀ q, 1 ≤ q → q < p → it t q s ≠ some s
  ·
   exact ⟨p, hp, h, hm⟩
  ·
   obtain ⟨q, hq⟩ := Classical.not_forall.1 hm
   obtain ⟨h1, hq⟩ := Classical.not_imp.1 hq
   obtain ⟨h2, hq⟩ := Classical.not_imp.1 hq
   exact ih q h2 h1 (Classical.not_not.1 hq)
theorem zg7 {t : List Cl} {s p : Nat} (hp : 1 ≤ p) (h : it t p s = some s) (hm : ∀ q, 1 ≤ q → q < p → it t q s ≠ some s) (z : Nat) (hz : it t (p - 1) s = some z) :
  ∀ (d q x : Nat) (pre : List Nat) (fuel : Nat) (nm : ByteArray), d = p - 1 - q → q < p → it t q s = some x → idxC nm t 0 = (x : Int) → (∀ y ∈ pre, ∃ r, r < q ∧ it t r s = some y) → (0 < q → s ∈ pre) → d < fuel → (lineP t fuel pre nm).getLast? = some z := by
 have hdist : ∀ a b x, a < b → b < p → it t a s = some x → it t b s = some x → False := fun a b x hab hb h1 h2 => by
  have h3 := zcu t b (p - b) s
  rw [show b + (p - b) = p by omega, h, h2] at h3
  have h4 := zcu t a (p - b) s
  rw [h1] at h4
  exact hm (a + (p - b)) o9 o9 (h4.trans h3.symm)
 intro d
 induction d with
 | zero =>
  intro q x pre fuel nm hd hq hx hn hpre hs hf
  obtain rfl : q = p - 1 := by omega
  obtain rfl : x = z := Option.some.inj (hx.symm.trans hz)
  obtain ⟨f, rfl⟩ : ∃ f, fuel = f + 1 := ⟨fuel - 1, by omega⟩
  unfold lineP
  rw [if_neg o9, hn, Int.toNat_natCast, if_neg (fun hh => by
   obtain ⟨r, h1, h2⟩ := hpre x hh
   exact hdist r (p - 1) x h1 hq h2 hx)]
  have hux : up t x = some s := by
   have h3 := zcu t (p - 1) 1 s
   rw [show p - 1 + 1 = p by omega, h, hx] at h3
   have h4 : some s = (up t x).bind (it t 0) := h3
   cases hu : up t x with
   | none => rw [hu] at h4; cases h4
   | some j => rw [hu] at h4; exact h4.symm
  have hi := (zct hux).2.2
  have : lineP t f (pre ++ [x]) (clsAt t x).f1 = [] := by
   cases f with
   | zero => rfl
   | succ f =>
    unfold lineP
    rw [if_neg o9, hi, Int.toNat_natCast, if_pos]
    rcases Nat.eq_zero_or_pos (p - 1) with h0 | h0
    ·
     rw [h0] at hx
     cases hx
     simp
    ·
     exact List.mem_append_left _ (hs h0)
  rw [this]; rfl
 | succ d ih =>
  intro q x pre fuel nm hd hq hx hn hpre hs hf
  obtain ⟨f, rfl⟩ : ∃ f, fuel = f + 1 := ⟨fuel - 1, by omega⟩
  unfold lineP
  rw [if_neg o9, hn, Int.toNat_natCast, if_neg (fun hh => by
   obtain ⟨r, h1, h2⟩ := hpre x hh
   exact hdist r q x h1 hq h2 hx)]
  have hq1 := zed hp h (q + 1)
  obtain ⟨y, hy⟩ := Option.isSome_iff_exists.1 hq1
  have hux : up t x = some y := by
   have h3 := zcu t q 1 s
   rw [hy, hx] at h3
   have h4 : some y = (up t x).bind (it t 0) := h3
   cases hu : up t x with
   | none => rw [hu] at h4; cases h4
   | some j => rw [hu] at h4; exact h4.symm
  have h1 := ih (q + 1) y (pre ++ [x]) f _ o9 o9 hy (zct hux).2.2 (fun w hw => by
   rcases List.mem_append.1 hw with hw | hw
   ·
    obtain ⟨r, h1, h2⟩ := hpre w hw
    exact ⟨r, by omega, h2⟩
   ·
    rw [List.mem_singleton.1 hw]; exact ⟨q, by omega, hx⟩) (fun _ => by
   rcases Nat.eq_zero_or_pos q with h0 | h0
   ·
    subst h0
    cases hx
    simp
   ·
    exact List.mem_append_left _ (hs h0)) o9
  rw [List.getLast?_cons, h1]; rfl
theorem zgM {t : List Cl} {nm : ByteArray} {z : Nat} (h : (lineL t nm).getLast? = some z) : lastN t nm = (clsAt t z).f0 := by
 have h0 : (supL t nm).length = (lineL t nm).length := by simp [supL]
 have hne : lineL t nm ≠ [] := fun e => by rw [e] at h; cases h
 have hp := List.length_pos_iff.2 hne
 unfold lastN rdOf
 rw [show ((((supL t nm).length : Int) - 1)).toNat = (lineL t nm).length - 1 by omega, List.getD_eq_getElem?_getD]
 unfold supL
 rw [List.getElem?_map]
 rw [List.getLast?_eq_getElem?] at h
 rw [h]; rfl
theorem Good.zid {t : List Cl} (g : Good t) {s : Nat} (hs : s < t.length) (p : Nat) (hp : 1 ≤ p) : it t p s ≠ some s := fun h => by
 obtain ⟨p, hp, h, hm⟩ := zhy p hp h
 obtain ⟨z, hz⟩ := Option.isSome_iff_exists.1 (zed hp h (p - 1))
 have hzl := it_lt t _ _ _ hs hz
 have hux : up t z = some s := by
  have h3 := zcu t (p - 1) 1 s
  rw [show p - 1 + 1 = p by omega, h, hz] at h3
  have h4 : some s = (up t z).bind (it t 0) := h3
  cases hu : up t z with
  | none => rw [hu] at h4; cases h4
  | some j => rw [hu] at h4; exact h4.symm
 have hple : p ≤ t.length := by
  have hn : ((List.range p).map fun j => (it t j s).getD 0).Nodup := by
   refine List.pairwise_map.2 (List.Pairwise.imp_of_mem ?_ List.pairwise_lt_range)
   intro a b ha hb hab e
   obtain ⟨x, hx⟩ := Option.isSome_iff_exists.1 (zed hp h a)
   obtain ⟨y, hy⟩ := Option.isSome_iff_exists.1 (zed hp h b)
   rw [hx, hy] at e
   have exy : x = y := e
   subst exy
   have hbp := List.mem_range.1 hb
   have h3 := zcu t b (p - b) s
   rw [show b + (p - b) = p by omega, h, hy] at h3
   have h4 := zcu t a (p - b) s
   rw [hx] at h4
   exact hm (a + (p - b)) o9 o9 (h4.trans h3.symm)
  have := zc0 _ (List.range t.length) hn (fun x hx => by
   obtain ⟨j, _, rfl⟩ := List.mem_map.1 hx
   obtain ⟨y, hy⟩ := Option.isSome_iff_exists.1 (zed hp h j)
   rw [hy]
   exact List.mem_range.2 (it_lt t _ _ _ hs hy))
  simpa using this
 have hl := zg7 hp h hm z hz (p - 1) 0 s [] (t.length + 1) (clsAt t s).f0 o9 o9 rfl (g.first s hs) (fun y hy => by cases hy) (fun h => absurd h o9) o9
 have h5 := zgM (nm := (clsAt t s).f0) hl
 have h6 := g.lin s hs
 unfold zd1 at h6
 rw [h5] at h6
 have h7 : at1 t (clsAt t z).f0 = (z : Int) := by unfold at1; rw [g.first z hzl, if_neg o9]
 rw [h7, Int.toNat_natCast, (zct hux).2.1] at h6
 by_cases h8 : ¬ (clsAt t s).f1.toList = [] ∧ is1 t (clsAt t s).f1 = false
 ·
  rw [if_pos h8] at h6; exact absurd h6 d9
 ·
  rw [if_neg h8, if_pos rfl] at h6; exact absurd h6 d9
theorem Good.ends {t : List Cl} (g : Good t) {i : Nat} (hi : i < t.length) : it t t.length i = none := by
 cases hx : it t t.length i with
 | none => rfl
 | some x =>
  exfalso
  have hs : ∀ j, j ≤ t.length → ∃ y, it t j i = some y := fun j hj => by
   have h1 := zcu t j (t.length - j) i
   rw [show j + (t.length - j) = t.length by omega, hx] at h1
   cases hy : it t j i with
   | none => rw [hy] at h1; cases h1
   | some y => exact ⟨y, rfl⟩
  have hn : ((List.range (t.length + 1)).map fun j => (it t j i).getD 0).Nodup := by
   refine List.pairwise_map.2 (List.Pairwise.imp_of_mem ?_ List.pairwise_lt_range)
   intro a b ha hb hab e
   obtain ⟨x, hx⟩ := hs a (by have := List.mem_range.1 ha; omega)
   obtain ⟨y, hy⟩ := hs b (by have := List.mem_range.1 hb; omega)
   rw [hx, hy] at e
   have exy : x = y := e
   subst exy
   have h1 := zcu t a (b - a) i
   rw [show a + (b - a) = b by omega, hx, hy] at h1
   exact g.zid (it_lt t _ _ _ hi hx) (b - a) o9 h1.symm
  have := zc0 _ (List.range t.length) hn (fun x hx => by
   obtain ⟨j, hj, rfl⟩ := List.mem_map.1 hx
   obtain ⟨y, hy⟩ := hs j (by have := List.mem_range.1 hj; omega)
   rw [hy]
   exact List.mem_range.2 (it_lt t _ _ _ hi hy))
  simp only [List.length_map, List.length_range] at this
  omega
theorem Good.line {t : List Cl} (g : Good t) {i : Nat} (hi : i < t.length) : lineL t (clsAt t i).f0 = i :: lineL t (clsAt t i).f1 := by
 obtain ⟨m, hm⟩ : ∃ m, t.length = m + 1 := ⟨t.length - 1, by omega⟩
 have hd := g.ends hi
 rw [hm] at hd
 have h1 : lineL t (clsAt t i).f0 = path t m i := zeG t m i [] _ _ (g.first i hi) hd (fun q hq => by cases hq) o9
 rw [h1]
 cases hu : up t i with
 | none =>
  have h2 : lineL t (clsAt t i).f1 = [] := zcM t _ _ _ (zej hu)
  rw [h2]
  cases m with
  | zero => rfl
  | succ m => simp [path, hu]
 | some j =>
  have hj := g.ends (zct hu).1
  rw [hm] at hj
  have h2 : lineL t (clsAt t i).f1 = path t m j := zeG t m j [] _ _ (zct hu).2.2 hj (fun q hq => by cases hq) o9
  rw [h2]
  cases m with
  | zero => simp [it, hu] at hd
  | succ m =>
   have hd' : it t (m + 1) j = none := by
    have : it t (m + 1 + 1) i = (up t i).bind (it t (m + 1)) := rfl
    rw [this, hu] at hd
    exact hd
   rw [zeO t m j hd']
   simp [path, hu]
theorem Good.zii {t : List Cl} (g : Good t) {P : ByteArray → Prop} (h0 : ∀ nm, idxC nm t 0 < 0 → P nm) (hs : ∀ i, i < t.length → P (clsAt t i).f1 → P (clsAt t i).f0) (nm : ByteArray) : P nm := by
 have key : ∀ m i, i < t.length → it t m i = none → P (clsAt t i).f0 := by
  intro m
  induction m with
  | zero => intro i hi h; cases h
  | succ m ih =>
   intro i hi h
   refine hs i hi ?_
   cases hu : up t i with
   | none => exact h0 _ (zej hu)
   | some j =>
    rw [(zct hu).2.1]
    have : it t (m + 1) i = (up t i).bind (it t m) := rfl
    rw [this, hu] at h
    exact ih j (zct hu).1 h
 by_cases hn : idxC nm t 0 < 0
 ·
  exact h0 nm hn
 ·
  obtain ⟨h1, h2, _⟩ := zbZ nm t hn
  rw [← bl h2]
  exact key _ _ h1 (g.ends h1)
theorem zgp {t : List Cl} {nm : ByteArray} (h : idxC nm t 0 < 0) : lineL t nm = [] := zcM t _ _ _ h
theorem Good.fields {t : List Cl} (g : Good t) {i : Nat} (hi : i < t.length) : zbm t (clsAt t i).f0 = zbm t (clsAt t i).f1 ++ (clsAt t i).f2 := by
 unfold zbm zb3
 rw [g.line hi, List.reverse_cons, List.flatMap_append]
 simp
theorem Good.meths {t : List Cl} (g : Good t) {i : Nat} (hi : i < t.length) : zcf t (clsAt t i).f0 = (clsAt t i).f3.foldl putS (zcf t (clsAt t i).f1) := by
 unfold zcf zfv
 rw [g.line hi, List.reverse_cons, List.flatMap_append, List.foldl_append]
 simp
abbrev nmS : Sg → ByteArray := fun x => x.f0
theorem zg2 (nm : ByteArray) (l : List ByteArray) : hasN nm l = true ↔ nm ∈ l := by
 rw [zfj]
 simp only [List.any_eq_true, decide_eq_true_eq]
 exact ⟨fun ⟨x, h1, h2⟩ => bl h2 ▸ h1, fun h => ⟨nm, h, rfl⟩⟩
abbrev FN (t : List Cl) (nm : ByteArray) : List ByteArray := (zbm t nm).map fun x => x.f0
abbrev MN (t : List Cl) (nm : ByteArray) : List ByteArray := (zcf t nm).map nmS
theorem zgs (t : List Cl) (c : ByteArray) : (mem t c).map (fun x : Mb => x.f0) = FN t c ++ MN t c := by
 unfold mem
 rw [List.map_append, List.map_map, List.map_map]
 rfl
structure MemOk (t : List Cl) (c : ByteArray) : Prop where
 fn : (FN t c).Nodup
 mn : (MN t c).Nodup
 dj : ∀ x ∈ FN t c, x ∉ MN t c
 at_ : ∀ m ∈ zcf t c, (methodAt t m.f0 (lineL t c)).isSome = true ∧ methM t m.f0 (methodAt t m.f0 (lineL t c)) = m
 no : ∀ x, x ∉ MN t c → methodAt t x (lineL t c) = none
end Go.Proofs.YtofoegknealilaaDoor.Pure
end

section
namespace Go.Proofs.YtofoegknealilaaDoor.PAll
open Go.RowKit Go.Proofs.YtofoegknealilaaDoorW.PrintWords Go.Proofs.YtofoegknealilaaDoorW.PrintLast Go.Proofs.YtofoegknealilaaDoorW.za5
attribute [local go_sem] zbe zbf zbo zbp za8 za9 zbg zbh
open Go.Proofs.YtofoegknealilaaDoorTab in
def zb9.f (k : Nat) (l0 : List (S44)) (a1 a2 : ByteArray) : Option (Int × Bool) := (zaF.f k l0 a1).bind fun L => if L.length < 4398046511104 then some (arN L a2, arB L a2) else none
theorem zb9.mono : ∀ l0 a1 a2 k, LeO (zb9.f k l0 a1 a2) (zb9.f (k + 1) l0 a1 a2) := by
 intro l0 a1 a2 k
 exact LeO.bind (zaF.mono l0 a1 k) (fun o => LeO.refl _)
open Go.Proofs.YtofoegknealilaaDoorTab in
theorem zb9.calls (k : Nat) (A0 : Option Addr) (c0 : Nat) (l0 : List (S44)) (a1 a2 : ByteArray) (r1 : Int) (r2 : Bool) (w : World) (hr0 : Kd.C k44 w A0 l0.length l0) (hc0 : l0.length ≤ c0) (h : zb9.f k l0 a1 a2 = some (r1, r2)) :
  Calls Tryd.prog 20 #[.slice A0 l0.length c0, .string a1, .string a2] w fun e w' => e = .returned (.tuple #[.int .i64 r1, .bool r2]) ∧ Below w.heap.size w w' := by
 obtain ⟨L, hL, h⟩ := Option.bind_eq_some_iff.1 h
 by_cases hl : L.length < 4398046511104
 ·
  rw [if_pos hl] at h
  cases h
  exact zdx A0 c0 l0 a1 a2 L w (fun w' hb => zaF.calls k A0 c0 l0 a1 L w' (Kd.zan hr0 hb) hc0 hL) hl
 ·
  rw [if_neg hl] at h; cases h
open Go.Proofs.YtofoegknealilaaDoorTab in
def zcV.f (l0 : List (S44)) (a1 a2 : ByteArray) : Option (ByteArray × Bool) := if l0.length < 4398046511104 ∧ (zbm l0 a1).length < 4398046511104 then some (zcF l0 a1 a2, zcm l0 a1 a2) else none
open Go.Proofs.YtofoegknealilaaDoorTab in
theorem zcV.calls (A0 : Option Addr) (c0 : Nat) (l0 : List (S44)) (a1 a2 : ByteArray) (r1 : ByteArray) (r2 : Bool) (w : World) (hr0 : Kd.C k44 w A0 l0.length l0) (hc0 : l0.length ≤ c0) (h : zcV.f l0 a1 a2 = some (r1, r2)) :
  Calls Tryd.prog 21 #[.slice A0 l0.length c0, .string a1, .string a2] w fun e w' => e = .returned (.tuple #[.string r1, .bool r2]) ∧ Below w.heap.size w w' := by
 unfold zcV.f at h
 by_cases hl : l0.length < 4398046511104 ∧ (zbm l0 a1).length < 4398046511104
 ·
  rw [if_pos hl] at h
  cases h
  exact zdt A0 c0 l0 a1 a2 w hr0 hl.1 hl.2
 ·
  rw [if_neg hl] at h; cases h
end Go.Proofs.YtofoegknealilaaDoor.PAll
end

section
namespace Go.Proofs.YtofoegknealilaaDoor.Pure
open Go.RowKit Go.Proofs.YtofoegknealilaaDoor.PAll Go.Proofs.YtofoegknealilaaDoorW.PrintWords Go.Proofs.YtofoegknealilaaDoorW.PrintLast Go.Proofs.YtofoegknealilaaDoorEv Go.Proofs.YtofoegknealilaaDoorTab Go.Proofs.YtofoegknealilaaDoorWords
theorem zgm {α β : Type} {F : α → Nat → Option β} {v : α → β} : ∀ l : List α, (∀ c ∈ l, Evn (F c) (v c)) → ∃ K, ∀ k, K ≤ k → ∀ c ∈ l, F c k = some (v c)
 | [], _ => ⟨0, fun _ _ c h => by cases h⟩
 | x :: r, h => by
  obtain ⟨K1, h1⟩ := h x List.mem_cons_self
  obtain ⟨K2, h2⟩ := zgm r (fun c hc => h c (List.mem_cons_of_mem _ hc))
  refine ⟨max K1 K2, fun k hk c hc => ?_⟩
  rcases List.mem_cons.1 hc with rfl | hc
  ·
   exact h1 k o9
  ·
   exact h2 k o9 c hc
theorem zhr {c : Cl} (h : okC c) : zaw.fits c = true := by
 obtain ⟨h0, h1, h2, h3, h4, h5⟩ := h
 unfold zaw.fits
 simp only [Bool.and_eq_true, decide_eq_true_eq, List.all_eq_true]
 refine ⟨⟨⟨⟨⟨by omega, by omega⟩, by omega⟩, fun v hv => ?_⟩, by omega⟩, fun m hm => ?_⟩
 ·
  have := h4 v hv; omega
 ·
  obtain ⟨q0, q1, q2, q3⟩ := h5 m hm
  exact ⟨⟨⟨by omega, by omega⟩, by omega⟩, fun p hp => by have := q3 p hp; omega⟩
theorem zfo {t : List Cl} (ht : TS t) : Evn (fun k => zaw.f k t) ((zbR t (mem t)).1, ((zbR t (mem t)).2 : Int)) := by
 obtain ⟨K, hK⟩ := zgm (F := fun (c : Cl) k => zaF.f k t c.f1) (v := fun c => mem t c.f1) t (fun c _ => zfW ht.toTB c.f1)
 refine ⟨K, fun k hk => ?_⟩
 have hm : ∀ c ∈ t, zaw.mb k t c.f1 = mem t c.f1 := fun c hc => by unfold zaw.mb; rw [hK k hk c hc]; rfl
 have ho : zaw.ok k t = true := by
  unfold zaw.ok
  simp only [Bool.and_eq_true, decide_eq_true_eq, List.all_eq_true]
  refine ⟨ht.toTB.small, fun c hc => ⟨⟨⟨zhr (ht.ok c hc), ?_⟩, ?_⟩, ?_⟩⟩
  ·
   have := ht.toTB.fields c.f1; omega
  ·
   rw [hK k hk c hc]; rfl
  ·
   rw [hm c hc]; have := zhA ht.toTB c.f1; omega
 show zaw.f k t = _
 unfold zaw.f
 rw [if_pos ho, zaw.zhl t (zaw.mb k t) (mem t) (fun i hi => hm _ (zdB t i hi))]
theorem zeY (a n : Int) (h : 0 < n) (hn : n ≤ 1000) (ha : (Lit.int .i64 a).wf = true) : ∃ p, zak.f a n = some p ∧ 0 ≤ p ∧ p < n := by
 have h1 := Int.tmod_lt_of_pos a h
 have h3 : -n < a.tmod n := by
  have := Int.tmod_lt_of_pos (-a) h
  rw [Int.neg_tmod] at this
  omega
 unfold zak.f
 rw [if_neg o9, if_neg o9]
 by_cases h2 : a.tmod n < 0
 ·
  rw [if_pos h2]
  exact ⟨_, rfl, by unfold wrap64; omega, by unfold wrap64; omega⟩
 ·
  rw [if_neg h2]; exact ⟨_, rfl, by omega, h1⟩
theorem MemOk.nd {t : List Cl} {c : ByteArray} (h : MemOk t c) : ((mem t c).map fun x : Mb => x.f0).Nodup := by
 rw [zgs, List.nodup_append]
 exact ⟨h.fn, h.mn, fun a ha b hb e => h.dj a ha (e ▸ hb)⟩
section
variable {t : List Cl} (g : Good t)
include g
end
def okT (t : List Cl) : Bool := ((zbR t (mem t)).1 == 0) && (((zbR t (mem t)).2 : Int) == 0)
theorem zhQ {t : List Cl} (ht : TS t) (l : List ByteArray) (hl : l.length < 1000000) : Evn (fun k => zaT.f k t l) (okT t && !(l.any fun s => !zbt t s)) := by
 obtain ⟨K, hK⟩ := zfo ht
 refine Evn.of K fun k hk => ?_
 unfold zaT.f
 have hk2 : zaw.f k t = some _ := hK k hk
 rw [if_pos ⟨by have := ht.toTB.len; omega, hl⟩, hk2]
 rfl
theorem zhk (s : ByteArray) : ∀ (l : List ByteArray) (i : Nat), zaJ.idx s l i = idxN s l i
 | [], _ => rfl
 | x :: r, i => by
  unfold zaJ.idx idxN
  rw [zhk s r (i + 1)]
theorem zfS (l : List ByteArray) (s : ByteArray) (hl : l.length < 4398046511104) : zaS.f l s = some (hasN s l) := by
 unfold zaS.f zaJ.f
 rw [if_pos hl, Option.bind_some, zhk]; rfl
def subB (t : List Cl) (s u : ByteArray) : Bool := (okT t && !([s, u].any fun s => !zbt t s)) && (decide (s.toList = u.toList) || hasN u (supL t s))
theorem zdo {t : List Cl} (ht : TS t) (s u : ByteArray) : Evn (fun k => zaf.f k t s u) (subB t s u) := by
 refine Evn.bind (zhQ ht [s, u] s9) ?_
 have hlen := ht.toTB.len
 obtain ⟨b, hb⟩ : ∃ b, b = (okT t && !([s, u].any fun s => !zbt t s)) := ⟨_, rfl⟩
 unfold subB
 rw [← hb]
 cases b with
 | false => exact Evn.neg s9 (Evn.ret _)
 | true =>
  refine Evn.pos rfl ?_
  by_cases h : s.toList = u.toList
  ·
   refine Evn.pos h ((Evn.ret _).val ?_)
   simp [h]
  ·
   refine Evn.neg h (Evn.cbind (v := supL t s) ?_ (Evn.cbind (zfS _ _ (zdT t s o9)) ((Evn.ret _).val ?_)))
   ·
    unfold zbn.f; rw [if_pos o9]
   ·
    simp [h]
section
variable {t : List Cl} (g : Good t)
include g
theorem Good.sup {i : Nat} (hi : i < t.length) : supL t (clsAt t i).f0 = (clsAt t i).f0 :: supL t (clsAt t i).f1 := by
 unfold supL
 rw [g.line hi]; rfl
theorem Good.suf (s : ByteArray) : ∀ u ∈ supL t s, supL t u <:+ supL t s := by
 refine g.zii (P := fun s => ∀ u ∈ supL t s, supL t u <:+ supL t s) ?_ ?_ s
 ·
  intro nm h u hu
  unfold supL at hu
  rw [zgp h] at hu; cases hu
 ·
  intro i hi ih u hu
  rw [g.sup hi] at hu ⊢
  rcases List.mem_cons.1 hu with rfl | hu
  ·
   rw [g.sup hi]; exact List.suffix_refl _
  ·
   exact (ih u hu).trans (List.suffix_cons _ _)
theorem Good.zfs {s u : ByteArray} (h : u ∈ supL t s) : ∃ r, supL t u = u :: r := by
 unfold supL at h
 obtain ⟨p, hp, rfl⟩ := List.mem_map.1 h
 exact ⟨_, g.sup (zbS t _ _ _ p hp)⟩
theorem Good.zin {a b c : ByteArray} (h1 : b ∈ supL t a) (h2 : c ∈ supL t b) : c ∈ supL t a := (g.suf a b h1).subset h2
theorem Good.anti {a b : ByteArray} (h1 : b ∈ supL t a) (h2 : a ∈ supL t b) : a = b := by
 have e : supL t a = supL t b := by
  have s1 := g.suf a b h1
  have s2 := g.suf b a h2
  exact s2.eq_of_length (Nat.le_antisymm s2.length_le s1.length_le)
 obtain ⟨r, hr⟩ := g.zfs h1
 obtain ⟨r', hr'⟩ := g.zfs h2
 rw [hr, hr'] at e
 exact (List.cons.inj e).1
end
theorem zg6 {t : List Cl} (h : okT t = true) : Good t := by
 unfold okT at h
 simp only [Bool.and_eq_true, beq_iff_eq] at h
 exact zhJ h.1
theorem zcp {t : List Cl} {s u : ByteArray} (ho : okT t = true) (hs : zbt t s = true) (hu : zbt t u = true) : subB t s u = true ↔ s = u ∨ u ∈ supL t s := by
 unfold subB
 simp only [ho, hs, hu, List.any_cons, List.any_nil, Bool.not_true, Bool.or_false, Bool.not_false, Bool.and_self, Bool.true_and, Bool.or_eq_true, decide_eq_true_eq, zg2]
 exact ⟨fun h => h.imp bl id, fun h => h.imp (congrArg _) id⟩
theorem zeg {t : List Cl} (h : ¬ okT t = true) (s u : ByteArray) : subB t s u = false := by
 unfold subB; simp [h]
def tyL (t : List Cl) : List ByteArray := [⟨#[105, 110, 116]⟩, ⟨#[114, 101, 97, 108]⟩, ⟨#[98, 111, 111, 108]⟩, ⟨#[115, 116, 114]⟩, ⟨#[117, 110, 105, 116]⟩, ⟨#[63]⟩] ++ t.map fun c => c.f0
theorem zhB (t : List Cl) (hl : t.length ≤ 9) (b : List ByteArray) (hb : b.length ≤ 6) : ∀ (d i : Nat), d = t.length - i → i ≤ t.length → Evn (fun k => zat.l0 k t (b ++ (t.take i).map fun c => c.f0) (i : Int)) (b ++ t.map fun c => c.f0) := by
 intro d
 induction d with
 | zero =>
  intro i hd hi
  obtain rfl : i = t.length := by omega
  refine Evn.succ (Evn.neg o9 ((Evn.ret _).val ?_))
  rw [List.take_length]
 | succ d ih =>
  intro i hd hi
  have hil : i < t.length := by omega
  refine Evn.succ (Evn.pos o9 (Evn.pos o9 (Evn.pos (by simp; omega) ?_)))
  rw [rdC _ i hil, w1 hil o9]
  have e : (b ++ (t.take i).map fun c => c.f0) ++ [t[i].f0] = b ++ (t.take (i + 1)).map fun c => c.f0 := by
   rw [List.take_succ_eq_append_getElem hil, List.map_append, List.append_assoc]; rfl
  rw [e]
  exact ih (i + 1) o9 o9
theorem zgP {t : List Cl} (hl : t.length ≤ 9) : Evn (fun k => zat.f k t) (tyL t) := by
 have h := zhB t hl [⟨#[105, 110, 116]⟩, ⟨#[114, 101, 97, 108]⟩, ⟨#[98, 111, 111, 108]⟩, ⟨#[115, 116, 114]⟩, ⟨#[117, 110, 105, 116]⟩, ⟨#[63]⟩] s9 t.length 0 rfl o9
 rw [List.take_zero] at h
 exact h
theorem zhE (t : List Cl) : (tyL t).length = 6 + t.length := by simp [tyL]; omega
theorem Good.typed {t : List Cl} (g : Good t) {s : ByteArray} (h : s ∈ tyL t) : zbt t s = true := by
 unfold tyL at h
 unfold zbt
 rcases List.mem_append.1 h with h | h
 ·
  simp only [List.mem_cons, List.not_mem_nil, or_false] at h
  rcases h with rfl | rfl | rfl | rfl | rfl | rfl
  ·
   rw [show ((tag2 ⟨#[105, 110, 116]⟩).2 == 0) = true by kernel_rfl, Bool.or_true]
  ·
   rw [show ((tag2 ⟨#[114, 101, 97, 108]⟩).2 == 0) = true by kernel_rfl, Bool.or_true]
  ·
   rw [show ((tag2 ⟨#[98, 111, 111, 108]⟩).2 == 0) = true by kernel_rfl, Bool.or_true]
  ·
   rw [show ((tag2 ⟨#[115, 116, 114]⟩).2 == 0) = true by kernel_rfl, Bool.or_true]
  ·
   rw [show ((tag2 ⟨#[117, 110, 105, 116]⟩).2 == 0) = true by kernel_rfl, Bool.or_true]
  ·
   rw [show ((⟨#[63]⟩ : ByteArray).toList == [63]) = true by kernel_rfl, Bool.or_true, Bool.true_or]
 ·
  obtain ⟨c, hc, rfl⟩ := List.mem_map.1 h
  obtain ⟨i, hi, rfl⟩ := List.mem_iff_getElem.1 hc
  have h1 := g.first i hi
  have e : clsAt t i = t[i] := rdC t i hi
  rw [e] at h1
  have : is1 t t[i].f0 = true := by unfold is1; rw [h1]; simp
  rw [this]; rfl
theorem rdB (l : List ByteArray) (i : Int) (h0 : 0 ≤ i) (h : i < (l.length : Int)) : rdOf ByteArray.empty l i ∈ l := by
 unfold rdOf
 rw [List.getD_eq_getElem?_getD, List.getElem?_eq_getElem o9]
 exact List.getElem_mem _
end Go.Proofs.YtofoegknealilaaDoor.Pure
end

section
namespace Go.Proofs.YtofoegknealilaaDoor.Pure
open Go.RowKit Go.Proofs.YtofoegknealilaaDoor.PAll Go.Proofs.YtofoegknealilaaDoorW.PrintWords Go.Proofs.YtofoegknealilaaDoorW.PrintLast
theorem SubtypeKnown : zad.Pure := ⟨20, by kernel_rfl⟩
end Go.Proofs.YtofoegknealilaaDoor.Pure
end

section
namespace Go.Proofs.YtofoegknealilaaDoor.Pure
open Go.RowKit Go.Proofs.YtofoegknealilaaDoor.PAll Go.Proofs.YtofoegknealilaaDoorW.PrintWords Go.Proofs.YtofoegknealilaaDoorW.PrintLast Go.Proofs.YtofoegknealilaaDoorEv Go.Proofs.YtofoegknealilaaDoorTab Go.Proofs.YtofoegknealilaaDoorWords
theorem zgZ : Evn (fun k => zad.f k) true := by
 obtain ⟨K, hK⟩ := SubtypeKnown
 have h : ∀ d, zad.f (K + d) = some true := fun d => by
  induction d with
  | zero => exact hK
  | succ d ih => exact zad.mono (K + d) true ih
 refine Evn.of K fun k hk => ?_
 have := h (k - K)
 rwa [show K + (k - K) = k by omega] at this
theorem zeb (t : List Cl) (mb : ByteArray → List Mb) : ∀ ks : List Nat, (zb2 t mb ks).1 = 0 → (zb2 t mb ks).2 = 0
 | [], _ => rfl
 | k :: r, h => by
  unfold zb2 at h ⊢
  cases hs : scanL (lookF t mb k) (List.range t.length) with
  | none =>
   rw [hs] at h
   exact zeb t mb r h
  | some i =>
   rw [hs] at h
   exact absurd h (zc9 _ _ _ hs)
theorem zfG {t : List Cl} (h : (zbR t (mem t)).1 = 0) : okT t = true := by
 have h2 : (zbR t (mem t)).2 = 0 := by
  unfold zbR at h ⊢
  by_cases hl : 40 < t.length
  ·
   rw [if_pos hl] at h; simp at h
  ·
   rw [if_neg hl] at h ⊢; exact zeb t _ _ h
 unfold okT
 rw [h, h2]; rfl
section
variable {t : List Cl} (g : Good t) (ho : okT t = true) {x y z : ByteArray} (hx : x ∈ tyL t) (hy : y ∈ tyL t) (hz : z ∈ tyL t)
include g ho
theorem zgG (hx : x ∈ tyL t) : subB t x x = true := (zcp ho (g.typed hx) (g.typed hx)).2 (.inl rfl)
theorem zgO (hx : x ∈ tyL t) (hy : y ∈ tyL t) (h1 : subB t x y = true) (h2 : subB t y x = true) : x = y := by
 rcases (zcp ho (g.typed hx) (g.typed hy)).1 h1 with h | h
 ·
  exact h
 ·
  rcases (zcp ho (g.typed hy) (g.typed hx)).1 h2 with h' | h'
  ·
   exact h'.symm
  ·
   exact g.anti h h'
theorem zeP (hx : x ∈ tyL t) (hy : y ∈ tyL t) (hz : z ∈ tyL t) (h1 : subB t x y = true) (h2 : subB t y z = true) : subB t x z = true := by
 refine (zcp ho (g.typed hx) (g.typed hz)).2 ?_
 rcases (zcp ho (g.typed hx) (g.typed hy)).1 h1 with rfl | h
 ·
  exact (zcp ho (g.typed hx) (g.typed hz)).1 h2
 ·
  rcases (zcp ho (g.typed hy) (g.typed hz)).1 h2 with rfl | h'
  ·
   exact .inr h
  ·
   exact .inr (g.zin h h')
end
theorem SubtypeOrder : chaperonlaw06_SubtypeOrder.Pure := by
 intro t a b c hlen _ ha hb hc
 refine Evn.ex (g := fun k => chaperonlaw06_SubtypeOrder.f k t a b c) ?_
 refine Evn.bind zgZ ?_
 obtain ⟨bt, h1, h2⟩ := zgR t
 refine Evn.bind h1 ?_
 cases bt with
 | true => exact Evn.pos rfl (Evn.ret _)
 | false =>
  have ht := h2 rfl
  have hl := ht.toTB.len
  have hn := zhE t
  refine Evn.neg s9 (Evn.bind (zgP hl) ?_)
  obtain ⟨p, hp, p0, p1⟩ := zeY a ((tyL t).length : Int) o9 o9 ha
  obtain ⟨q, hq, q0, q1⟩ := zeY b ((tyL t).length : Int) o9 o9 hb
  obtain ⟨s, hs, s0, s1⟩ := zeY c ((tyL t).length : Int) o9 o9 hc
  refine Evn.cbind hp (Evn.pos p0 (Evn.pos p1 (Evn.cbind hq (Evn.pos q0 (Evn.pos q1 (Evn.cbind hs (Evn.pos s0 (Evn.pos s1 ?_))))))))
  have hx := rdB (tyL t) p p0 p1
  have hy := rdB (tyL t) q q0 q1
  have hz := rdB (tyL t) s s0 s1
  obtain ⟨x, ex⟩ : ∃ x, x = rdOf ByteArray.empty (tyL t) p := ⟨_, rfl⟩
  obtain ⟨y, ey⟩ : ∃ y, y = rdOf ByteArray.empty (tyL t) q := ⟨_, rfl⟩
  obtain ⟨z, ez⟩ : ∃ z, z = rdOf ByteArray.empty (tyL t) s := ⟨_, rfl⟩
  rw [← ex] at hx
  rw [← ey] at hy
  rw [← ez] at hz
  rw [← ex, ← ey, ← ez]
  refine Evn.bind (zdo ht x y) (Evn.bind (zdo ht y x) (Evn.bind (zdo ht y z) (Evn.bind (zfo ht) ?_)))
  by_cases h0 : (zbR t (mem t)).1 = 0
  ·
   have ho := zfG h0
   have g := zg6 ho
   refine Evn.pos h0 (Evn.bind (zdo ht x x) (Evn.pos (zgG g ho hx) ?_))
   by_cases hxy : subB t x y = true
   ·
    refine Evn.pos hxy ?_
    by_cases hyx : subB t y x = true
    ·
     refine Evn.pos hyx (Evn.pos (congrArg _ (zgO g ho hx hy hxy hyx)) ?_)
     by_cases hyz : subB t y z = true
     ·
      exact Evn.pos hyz (Evn.bind (zdo ht x z) (Evn.pos (zeP g ho hx hy hz hxy hyz) (Evn.ret _)))
     ·
      exact Evn.neg hyz (Evn.ret _)
    ·
     refine Evn.neg hyx ?_
     by_cases hyz : subB t y z = true
     ·
      exact Evn.pos hyz (Evn.bind (zdo ht x z) (Evn.pos (zeP g ho hx hy hz hxy hyz) (Evn.ret _)))
     ·
      exact Evn.neg hyz (Evn.ret _)
   ·
    exact Evn.neg hxy (Evn.ret _)
  ·
   have hb : ¬ okT t = true := fun h => h0 (by unfold okT at h; simp only [Bool.and_eq_true, beq_iff_eq] at h; exact h.1)
   refine Evn.neg h0 (Evn.pos rfl (Evn.neg (by rw [zeg hb]; simp) (Evn.neg (by rw [zeg hb]; simp) (Evn.bind (zdo ht x x) ((Evn.ret _).val ?_)))))
   rw [zeg hb]; rfl
end Go.Proofs.YtofoegknealilaaDoor.Pure
end
