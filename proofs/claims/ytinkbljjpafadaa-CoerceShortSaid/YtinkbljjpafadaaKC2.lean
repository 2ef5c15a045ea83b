/- Parts of the proof of one statement, packed: what the program's functions compute. No conditions. -/
import Derived.Test.YtinkbljjpafadaaKC1
import Derived.Shelf.RegionOpenPlain
import Derived.Deep.LoopGhost
import Derived.Lib.Walk
import Derived.Sort.WalkB12
import Derived.Lib.SlicesMore
import Derived.WalkSmall
import Derived.Defers
import Derived.Recover
set_option linter.unusedSimpArgs false
set_option linter.unusedVariables false
set_option maxRecDepth 100000
set_option maxHeartbeats 8000000
section
namespace Go.Proofs.YtinkbljjpafadaaTab
open Go.RowKit Go.Proofs.Ytinkbljjpafadaa.PAll Go.Proofs.YtinkbljjpafadaaW.PrintWords Go.Proofs.YtinkbljjpafadaaW.PrintLast Go.Proofs.YtinkbljjpafadaaRF Go.Proofs.YtinkbljjpafadaaRG
attribute [local go_sem] Oper.semAt_some
def idxC (s : ByteArray) : List (S64) → Nat → Int
 | [], _ => -1
 | x :: r, i => if x.f0.toList = s.toList then (i : Int) else idxC s r (i + 1)
theorem zk6 (s : ByteArray) (l : List (S64)) (i : Nat) (h : i < l.length) : idxC s (l.drop i) i = if (zar l (i : Int)).f0.toList = s.toList then (i : Int) else idxC s (l.drop (i + 1)) (i + 1) := by
 rw [List.drop_eq_getElem_cons h]
 unfold zar
 rw [Int.toNat_natCast, List.getD_eq_getElem?_getD, List.getElem?_eq_getElem h]; rfl
theorem zju (s : ByteArray) : ∀ (l : List (S64)) (i : Nat), idxC s l i = -1 ∨ ((i : Int) ≤ idxC s l i ∧ idxC s l i < i + l.length)
 | [], i => .inl rfl
 | x :: r, i => by
  unfold idxC
  by_cases h : x.f0.toList = s.toList
  ·
   rw [if_pos h]; right; simp; omega
  ·
   rw [if_neg h]
   rcases zju s r (i + 1) with q | ⟨q1, q2⟩
   ·
    exact .inl q
   ·
    right; simp; omega
theorem isC (nm : ByteArray) (p : Nat) (x0 : ByteArray) (x1 : ByteArray) (A2 : Option Addr) (n2 c2 : Nat) (A3 : Option Addr) (n3 c3 : Nat) (w : World) (hp : w.heap[p]? = some (.cells #[.string nm] 9 (0, 0))) : Calls Try.prog 89 #[.agg #[.string x0, .string x1, .slice A2 n2 c2, .slice A3 n3 c3], .pointer (some ⟨p, 0, none⟩)] w fun e w' => e = .returned (.bool (x0.toList == nm.toList)) ∧ Below w.heap.size w w' := by
 have hu := Try.underlying64
 have hc := zad (zal hp (.cells #[.string x0, .string x1, .slice A2 n2 c2, .slice A3 n3 c3] 64 (0, 0))) 0
 simp only [List.getElem?_toArray, List.getElem?_cons_zero] at hc
 have HP := zaa.mk hp
 clear hp
 go_enter Try.func89, Try.ntmps89
 go_wp2
 go_ret
 exact ⟨rfl, (Below.refl _ _).alloc (Nat.le_refl _) _⟩
theorem zlI (A0 : Option Addr) (c0 : Nat) (l0 : List (S64)) (nm : ByteArray) (p : Nat) (w : World) (hr0 : Kd.C k64 w A0 l0.length l0) (hl : l0.length < 4398046511104) (hp : w.heap[p]? = some (.cells #[.string nm] 9 (0, 0))) :
  Calls Try.prog 91 #[.slice A0 l0.length c0, .func (.func 89) #[] #[.pointer (some ⟨p, 0, none⟩)]] w fun e w' => e = .returned (.int .i64 (idxC nm l0 0)) ∧ Below w.heap.size w w' := by
 have HR0 := zaa.mk hr0
 have HP := zaa.mk hp
 have hu := Try.underlying64
 obtain ⟨r, hr⟩ : ∃ r, r = idxC nm l0 0 := ⟨_, rfl⟩
 rw [← hr]
 have HH := zaa.mk hr.symm
 clear hr0 hp hr
 go_enter Try.func91, Try.ntmps91
 go_wp2
 go_loopw [8] (fun v8 wr => ∃ i : Nat, i ≤ l0.length ∧ v8 = .int .i64 i ∧ zaa (idxC nm (l0.drop i) i = r ∧ Below w.heap.size w wr)) (fun v8 _ => l0.length - (intOf v8).toNat)
 case atStart => exact ⟨0, Nat.zero_le _, rfl, ⟨HH.out, Below.refl _ _⟩⟩
 case round =>
  obtain ⟨i, hi, rfl, ⟨hI, hB⟩⟩ := hrel
  have HB := zaa.mk hB
  by_cases hlt : i < l0.length
  ·
   obtain ⟨ad, A2, c2, A3, c3, hA, x0, x1, x2, x3, _⟩ := zdD (Kd.zat HR0.out hB) (i : Int) o9 o9
   simp only [Int.toNat_natCast] at x0 x1 x2 x3
   have HA := zk6 nm l0 i hlt
   rw [hI] at HA
   obtain ⟨x, hx⟩ : ∃ x, x = zar l0 (i : Int) := ⟨_, rfl⟩
   rw [← hx] at HA x0 x1 x2 x3
   have HPR := zaa.mk ((hB.block p (zai HP.out)).trans HP.out)
   clear hx hI hB
   subst hA
   by_cases he : x.f0.toList = nm.toList
   ·
    rw [if_pos he] at HA
    have HQ := zaa.mk (show (x.f0.toList == nm.toList) = true by simpa using he)
    subst HA
    clear he
    go_wp2_with fail
    refine (isC nm p x.f0 x.f1 A2 x.f2.length c2 A3 x.f3.length c3 _ HPR.out).mono ?_
    rintro e w2 ⟨rfl, hb⟩
    rw [HQ.out]
    have HB2 := zaa.mk (HB.out.trans (hb.mono HB.out.size))
    clear hb
    go_wp2_with fail
    go_ret
    exact ⟨rfl, HB2.out⟩
   ·
    rw [if_neg he] at HA
    have HQ := zaa.mk (show (x.f0.toList == nm.toList) = false by simpa using he)
    have HA2 := zaa.mk HA.symm
    clear he HA
    go_wp2_with fail
    refine (isC nm p x.f0 x.f1 A2 x.f2.length c2 A3 x.f3.length c3 _ HPR.out).mono ?_
    rintro e w2 ⟨rfl, hb⟩
    rw [HQ.out]
    have HB2 := zaa.mk (HB.out.trans (hb.mono HB.out.size))
    clear hb
    go_wp2_with fail
    go_roundw
    case rel => exact ⟨i + 1, by omega, by go_num, ⟨HA2.out, HB2.out⟩⟩
    case measure => simp [intOf]; omega
  ·
   have hi2 : i = l0.length := by omega
   rw [hi2, List.drop_length] at hI
   have HA2 := zaa.mk hI
   clear hI hi2 hB
   go_wp2_with fail
   go_ret
   exact ⟨by rw [← HA2.out]; rfl, HB.out⟩
def zkJ (s : ByteArray) (l : List (S64)) : S64 := if idxC s l 0 < 0 then z64 else zar l (idxC s l 0)
theorem findC (A0 : Option Addr) (c0 : Nat) (l0 : List (S64)) (nm : ByteArray) (p : Nat) (w : World) (hr0 : Kd.C k64 w A0 l0.length l0) (hl : l0.length < 4398046511104) (hp : w.heap[p]? = some (.cells #[.string nm] 9 (0, 0))) :
  Calls Try.prog 88 #[.slice A0 l0.length c0, .func (.func 89) #[] #[.pointer (some ⟨p, 0, none⟩)]] w fun e w' => ∃ y, y = zkJ nm l0 ∧ ∃ (A2 : Option Addr) (c2 : Nat), ∃ (A3 : Option Addr) (c3 : Nat),  e = .returned (.tuple #[.agg #[.string y.f0, .string y.f1, .slice A2 y.f2.length c2, .slice A3 y.f3.length c3], .int .i64 (if idxC nm l0 0 < 0 then 0 else idxC nm l0 0), .bool (!decide (idxC nm l0 0 < 0))]) ∧ y.f2.length ≤ c2 ∧ Kd.C k58 w' A2 y.f2.length y.f2 ∧ y.f3.length ≤ c3 ∧ Kd.C k61 w' A3 y.f3.length y.f3 ∧ Below w.heap.size w w' := by
 have hu := Try.underlying64
 have HI := zaa.mk (zlI A0 c0 l0 nm p (w.alloc (.cells #[.string ⟨#[]⟩, .string ⟨#[]⟩, .slice none 0 0, .slice none 0 0] 64 (0, 0))) (Kd.zat hr0 ((Below.refl _ _).alloc (Nat.le_refl _) _)) hl (zal hp _))
 have HR0 := zaa.mk hr0
 have hrange := zju nm l0 0
 unfold zkJ
 obtain ⟨r, hr⟩ : ∃ r, r = idxC nm l0 0 := ⟨_, rfl⟩
 rw [← hr] at HI hrange ⊢
 clear hr0 hp hr
 by_cases hneg : r < 0
 ·
  rw [if_pos hneg, if_pos hneg]
  have hd : decide (r < 0) = true := by simpa using hneg
  rw [hd]
  clear hrange
  go_enter Try.func88, Try.ntmps88
  go_wp2_with fail
  refine HI.out.mono ?_
  rintro e w1 ⟨rfl, hb⟩
  have HB1 := zaa.mk (((Below.refl w.heap.size w).alloc (Nat.le_refl _) (.cells #[.string ⟨#[]⟩, .string ⟨#[]⟩, .slice none 0 0, .slice none 0 0] 64 (0, 0))).trans (hb.mono s9))
  have hg1 := (hb.block w.heap.size s9).trans (at_new w (.cells #[.string ⟨#[]⟩, .string ⟨#[]⟩, .slice none 0 0, .slice none 0 0] 64 (0, 0)) rfl)
  have HG1 := zaa.mk hg1
  have g0 := zad hg1 0
  have f0 := free_at hg1 0
  have g1 := zad hg1 1
  have f1 := free_at hg1 1
  have g2 := zad hg1 2
  have f2 := free_at hg1 2
  have g3 := zad hg1 3
  have f3 := free_at hg1 3
  simp only [List.getElem?_toArray, List.getElem?_cons_zero, List.getElem?_cons_succ] at g0 g1 g2 g3
  clear hb hg1 HI
  go_wp2_with fail
  refine bodyPost_ret (zcm rfl _ _ w.heap.size 64 #[.string ⟨#[]⟩, .string ⟨#[]⟩, .slice none 0 0, .slice none 0 0] (0, 0) _ rfl ?_ Try.underlying64 rfl k9) rfl ⟨z64, rfl, none, 0, none, 0, rfl, Nat.le_refl _, Kd.C_nil _ _, Nat.le_refl _, Kd.C_nil _ _, ?_⟩
  ·
   exact (zaf (zaf (zaf (zaf HG1.out 0 _ rfl) 1 _ rfl) 2 _ rfl) 3 _ rfl)
  ·
   exact (zaR (zaR (zaR (zaR HB1.out (Nat.le_refl _)) (Nat.le_refl _)) (Nat.le_refl _)) (Nat.le_refl _))
 ·
  rw [if_neg hneg, if_neg hneg]
  have hd : decide (r < 0) = false := by simpa using hneg
  rw [hd]
  obtain ⟨m, rfl⟩ : ∃ m : Nat, r = m := ⟨r.toNat, by omega⟩
  have hm : m < l0.length := by omega
  obtain ⟨y, hy⟩ : ∃ y, y = zar l0 (m : Int) := ⟨_, rfl⟩
  rw [← hy]
  have HY := zaa.mk hy
  clear hrange hy
  go_enter Try.func88, Try.ntmps88
  go_wp2_with fail
  refine HI.out.mono ?_
  rintro e w1 ⟨rfl, hb⟩
  have HB1 := zaa.mk (((Below.refl w.heap.size w).alloc (Nat.le_refl _) (.cells #[.string ⟨#[]⟩, .string ⟨#[]⟩, .slice none 0 0, .slice none 0 0] 64 (0, 0))).trans (hb.mono s9))
  have hg1 := (hb.block w.heap.size s9).trans (at_new w (.cells #[.string ⟨#[]⟩, .string ⟨#[]⟩, .slice none 0 0, .slice none 0 0] 64 (0, 0)) rfl)
  have HG1 := zaa.mk hg1
  have g0 := zad hg1 0
  have f0 := free_at hg1 0
  have g1 := zad hg1 1
  have f1 := free_at hg1 1
  have g2 := zad hg1 2
  have f2 := free_at hg1 2
  have g3 := zad hg1 3
  have f3 := free_at hg1 3
  simp only [List.getElem?_toArray, List.getElem?_cons_zero, List.getElem?_cons_succ] at g0 g1 g2 g3
  have HB0 := zaa.mk (show Below w.heap.size w w1 from HB1.out)
  obtain ⟨ad, A2, c2, A3, c3, hA, x0, x1, x2, x3, l2, C2, l3, C3⟩ := zdD HR0.out (m : Int) o9 o9
  replace x0 := (HB1.out.cell (block_lt_of_cell x0)).trans x0
  replace x1 := (HB1.out.cell (block_lt_of_cell x1)).trans x1
  replace x2 := (HB1.out.cell (block_lt_of_cell x2)).trans x2
  replace x3 := (HB1.out.cell (block_lt_of_cell x3)).trans x3
  simp only [Int.toNat_natCast] at x0 x1 x2 x3
  rw [← HY.out] at x0 x1 x2 x3 l2 C2 l3 C3
  skip
  have H2 := zaa.mk C2
  have H3 := zaa.mk C3
  clear C2 C3
  clear hb hg1 HI
  subst hA
  go_wp2_with fail
  refine bodyPost_ret (zcm rfl _ _ w.heap.size 64 #[.string y.f0, .string y.f1, .slice A2 y.f2.length c2, .slice A3 y.f3.length c3] (0, 0) _ rfl ?_ Try.underlying64 rfl k9) rfl ⟨y, rfl, A2, c2, A3, c3, rfl, l2, Kd.zat H2.out (zaR (zaR (zaR (zaR HB1.out (Nat.le_refl _)) (Nat.le_refl _)) (Nat.le_refl _)) (Nat.le_refl _)), l3, Kd.zat H3.out (zaR (zaR (zaR (zaR HB1.out (Nat.le_refl _)) (Nat.le_refl _)) (Nat.le_refl _)) (Nat.le_refl _)), ?_⟩
  ·
   exact (zaf (zaf (zaf (zaf HG1.out 0 _ rfl) 1 _ rfl) 2 _ rfl) 3 _ rfl)
  ·
   exact (zaR (zaR (zaR (zaR HB1.out (Nat.le_refl _)) (Nat.le_refl _)) (Nat.le_refl _)) (Nat.le_refl _))
def idxV (s : ByteArray) : List (S58) → Nat → Int
 | [], _ => -1
 | x :: r, i => if x.f0.toList = s.toList then (i : Int) else idxV s r (i + 1)
theorem zlp (s : ByteArray) (l : List (S58)) (i : Nat) (h : i < l.length) : idxV s (l.drop i) i = if (zbG l (i : Int)).f0.toList = s.toList then (i : Int) else idxV s (l.drop (i + 1)) (i + 1) := by
 rw [List.drop_eq_getElem_cons h]
 unfold zbG
 rw [Int.toNat_natCast, List.getD_eq_getElem?_getD, List.getElem?_eq_getElem h]; rfl
theorem zjn (s : ByteArray) : ∀ (l : List (S58)) (i : Nat), idxV s l i = -1 ∨ ((i : Int) ≤ idxV s l i ∧ idxV s l i < i + l.length)
 | [], i => .inl rfl
 | x :: r, i => by
  unfold idxV
  by_cases h : x.f0.toList = s.toList
  ·
   rw [if_pos h]; right; simp; omega
  ·
   rw [if_neg h]
   rcases zjn s r (i + 1) with q | ⟨q1, q2⟩
   ·
    exact .inl q
   ·
    right; simp; omega
theorem isV (nm : ByteArray) (p : Nat) (x0 : ByteArray) (x1 : ByteArray) (w : World) (hp : w.heap[p]? = some (.cells #[.string nm] 9 (0, 0))) : Calls Try.prog 79 #[.agg #[.string x0, .string x1], .pointer (some ⟨p, 0, none⟩)] w fun e w' => e = .returned (.bool (x0.toList == nm.toList)) ∧ Below w.heap.size w w' := by
 have hu := Try.underlying58
 have hc := zad (zal hp (.cells #[.string x0, .string x1] 58 (0, 0))) 0
 simp only [List.getElem?_toArray, List.getElem?_cons_zero] at hc
 have HP := zaa.mk hp
 clear hp
 go_enter Try.func79, Try.ntmps79
 go_wp2
 go_ret
 exact ⟨rfl, (Below.refl _ _).alloc (Nat.le_refl _) _⟩
theorem zlF (A0 : Option Addr) (c0 : Nat) (l0 : List (S58)) (nm : ByteArray) (p : Nat) (w : World) (hr0 : Kd.C k58 w A0 l0.length l0) (hl : l0.length < 4398046511104) (hp : w.heap[p]? = some (.cells #[.string nm] 9 (0, 0))) :
  Calls Try.prog 86 #[.slice A0 l0.length c0, .func (.func 79) #[] #[.pointer (some ⟨p, 0, none⟩)]] w fun e w' => e = .returned (.int .i64 (idxV nm l0 0)) ∧ Below w.heap.size w w' := by
 have HR0 := zaa.mk hr0
 have HP := zaa.mk hp
 have hu := Try.underlying58
 obtain ⟨r, hr⟩ : ∃ r, r = idxV nm l0 0 := ⟨_, rfl⟩
 rw [← hr]
 have HH := zaa.mk hr.symm
 clear hr0 hp hr
 go_enter Try.func86, Try.ntmps86
 go_wp2
 go_loopw [8] (fun v8 wr => ∃ i : Nat, i ≤ l0.length ∧ v8 = .int .i64 i ∧ zaa (idxV nm (l0.drop i) i = r ∧ Below w.heap.size w wr)) (fun v8 _ => l0.length - (intOf v8).toNat)
 case atStart => exact ⟨0, Nat.zero_le _, rfl, ⟨HH.out, Below.refl _ _⟩⟩
 case round =>
  obtain ⟨i, hi, rfl, ⟨hI, hB⟩⟩ := hrel
  have HB := zaa.mk hB
  by_cases hlt : i < l0.length
  ·
   obtain ⟨ad, hA, x0, x1⟩ := zdS (Kd.zat HR0.out hB) (i : Int) o9 o9
   simp only [Int.toNat_natCast] at x0 x1
   have HA := zlp nm l0 i hlt
   rw [hI] at HA
   obtain ⟨x, hx⟩ : ∃ x, x = zbG l0 (i : Int) := ⟨_, rfl⟩
   rw [← hx] at HA x0 x1
   have HPR := zaa.mk ((hB.block p (zai HP.out)).trans HP.out)
   clear hx hI hB
   subst hA
   by_cases he : x.f0.toList = nm.toList
   ·
    rw [if_pos he] at HA
    have HQ := zaa.mk (show (x.f0.toList == nm.toList) = true by simpa using he)
    subst HA
    clear he
    go_wp2_with fail
    refine (isV nm p x.f0 x.f1 _ HPR.out).mono ?_
    rintro e w2 ⟨rfl, hb⟩
    rw [HQ.out]
    have HB2 := zaa.mk (HB.out.trans (hb.mono HB.out.size))
    clear hb
    go_wp2_with fail
    go_ret
    exact ⟨rfl, HB2.out⟩
   ·
    rw [if_neg he] at HA
    have HQ := zaa.mk (show (x.f0.toList == nm.toList) = false by simpa using he)
    have HA2 := zaa.mk HA.symm
    clear he HA
    go_wp2_with fail
    refine (isV nm p x.f0 x.f1 _ HPR.out).mono ?_
    rintro e w2 ⟨rfl, hb⟩
    rw [HQ.out]
    have HB2 := zaa.mk (HB.out.trans (hb.mono HB.out.size))
    clear hb
    go_wp2_with fail
    go_roundw
    case rel => exact ⟨i + 1, by omega, by go_num, ⟨HA2.out, HB2.out⟩⟩
    case measure => simp [intOf]; omega
  ·
   have hi2 : i = l0.length := by omega
   rw [hi2, List.drop_length] at hI
   have HA2 := zaa.mk hI
   clear hI hi2 hB
   go_wp2_with fail
   go_ret
   exact ⟨by rw [← HA2.out]; rfl, HB.out⟩
def zfb (s : ByteArray) (l : List (S58)) : S58 := if idxV s l 0 < 0 then z58 else zbG l (idxV s l 0)
theorem findV (A0 : Option Addr) (c0 : Nat) (l0 : List (S58)) (nm : ByteArray) (p : Nat) (w : World) (hr0 : Kd.C k58 w A0 l0.length l0) (hl : l0.length < 4398046511104) (hp : w.heap[p]? = some (.cells #[.string nm] 9 (0, 0))) :
  Calls Try.prog 78 #[.slice A0 l0.length c0, .func (.func 79) #[] #[.pointer (some ⟨p, 0, none⟩)]] w fun e w' => ∃ y, y = zfb nm l0 ∧  e = .returned (.tuple #[.agg #[.string y.f0, .string y.f1], .int .i64 (if idxV nm l0 0 < 0 then 0 else idxV nm l0 0), .bool (!decide (idxV nm l0 0 < 0))]) ∧ Below w.heap.size w w' := by
 have hu := Try.underlying58
 have HI := zaa.mk (zlF A0 c0 l0 nm p (w.alloc (.cells #[.string ⟨#[]⟩, .string ⟨#[]⟩] 58 (0, 0))) (Kd.zat hr0 ((Below.refl _ _).alloc (Nat.le_refl _) _)) hl (zal hp _))
 have HR0 := zaa.mk hr0
 have hrange := zjn nm l0 0
 unfold zfb
 obtain ⟨r, hr⟩ : ∃ r, r = idxV nm l0 0 := ⟨_, rfl⟩
 rw [← hr] at HI hrange ⊢
 clear hr0 hp hr
 by_cases hneg : r < 0
 ·
  rw [if_pos hneg, if_pos hneg]
  have hd : decide (r < 0) = true := by simpa using hneg
  rw [hd]
  clear hrange
  go_enter Try.func78, Try.ntmps78
  go_wp2_with fail
  refine HI.out.mono ?_
  rintro e w1 ⟨rfl, hb⟩
  have HB1 := zaa.mk (((Below.refl w.heap.size w).alloc (Nat.le_refl _) (.cells #[.string ⟨#[]⟩, .string ⟨#[]⟩] 58 (0, 0))).trans (hb.mono s9))
  have hg1 := (hb.block w.heap.size s9).trans (at_new w (.cells #[.string ⟨#[]⟩, .string ⟨#[]⟩] 58 (0, 0)) rfl)
  have HG1 := zaa.mk hg1
  have g0 := zad hg1 0
  have f0 := free_at hg1 0
  have g1 := zad hg1 1
  have f1 := free_at hg1 1
  simp only [List.getElem?_toArray, List.getElem?_cons_zero, List.getElem?_cons_succ] at g0 g1
  clear hb hg1 HI
  go_wp2_with fail
  refine bodyPost_ret (zcm rfl _ _ w.heap.size 58 #[.string ⟨#[]⟩, .string ⟨#[]⟩] (0, 0) _ rfl ?_ Try.underlying58 rfl k9) rfl ⟨z58, rfl, rfl, ?_⟩
  ·
   exact (zaf (zaf HG1.out 0 _ rfl) 1 _ rfl)
  ·
   exact (zaR (zaR HB1.out (Nat.le_refl _)) (Nat.le_refl _))
 ·
  rw [if_neg hneg, if_neg hneg]
  have hd : decide (r < 0) = false := by simpa using hneg
  rw [hd]
  obtain ⟨m, rfl⟩ : ∃ m : Nat, r = m := ⟨r.toNat, by omega⟩
  have hm : m < l0.length := by omega
  obtain ⟨y, hy⟩ : ∃ y, y = zbG l0 (m : Int) := ⟨_, rfl⟩
  rw [← hy]
  have HY := zaa.mk hy
  clear hrange hy
  go_enter Try.func78, Try.ntmps78
  go_wp2_with fail
  refine HI.out.mono ?_
  rintro e w1 ⟨rfl, hb⟩
  have HB1 := zaa.mk (((Below.refl w.heap.size w).alloc (Nat.le_refl _) (.cells #[.string ⟨#[]⟩, .string ⟨#[]⟩] 58 (0, 0))).trans (hb.mono s9))
  have hg1 := (hb.block w.heap.size s9).trans (at_new w (.cells #[.string ⟨#[]⟩, .string ⟨#[]⟩] 58 (0, 0)) rfl)
  have HG1 := zaa.mk hg1
  have g0 := zad hg1 0
  have f0 := free_at hg1 0
  have g1 := zad hg1 1
  have f1 := free_at hg1 1
  simp only [List.getElem?_toArray, List.getElem?_cons_zero, List.getElem?_cons_succ] at g0 g1
  have HB0 := zaa.mk (show Below w.heap.size w w1 from HB1.out)
  obtain ⟨ad, hA, x0, x1⟩ := zdS HR0.out (m : Int) o9 o9
  replace x0 := (HB1.out.cell (block_lt_of_cell x0)).trans x0
  replace x1 := (HB1.out.cell (block_lt_of_cell x1)).trans x1
  simp only [Int.toNat_natCast] at x0 x1
  rw [← HY.out] at x0 x1
  skip
  clear hb hg1 HI
  subst hA
  go_wp2_with fail
  refine bodyPost_ret (zcm rfl _ _ w.heap.size 58 #[.string y.f0, .string y.f1] (0, 0) _ rfl ?_ Try.underlying58 rfl k9) rfl ⟨y, rfl, rfl, ?_⟩
  ·
   exact (zaf (zaf HG1.out 0 _ rfl) 1 _ rfl)
  ·
   exact (zaR (zaR HB1.out (Nat.le_refl _)) (Nat.le_refl _))
def idxS (s : ByteArray) : List (S61) → Nat → Int
 | [], _ => -1
 | x :: r, i => if x.f0.toList = s.toList then (i : Int) else idxS s r (i + 1)
theorem zlj (s : ByteArray) (l : List (S61)) (i : Nat) (h : i < l.length) : idxS s (l.drop i) i = if (za6 l (i : Int)).f0.toList = s.toList then (i : Int) else idxS s (l.drop (i + 1)) (i + 1) := by
 rw [List.drop_eq_getElem_cons h]
 unfold za6
 rw [Int.toNat_natCast, List.getD_eq_getElem?_getD, List.getElem?_eq_getElem h]; rfl
theorem ziz (s : ByteArray) : ∀ (l : List (S61)) (i : Nat), idxS s l i = -1 ∨ ((i : Int) ≤ idxS s l i ∧ idxS s l i < i + l.length)
 | [], i => .inl rfl
 | x :: r, i => by
  unfold idxS
  by_cases h : x.f0.toList = s.toList
  ·
   rw [if_pos h]; right; simp; omega
  ·
   rw [if_neg h]
   rcases ziz s r (i + 1) with q | ⟨q1, q2⟩
   ·
    exact .inl q
   ·
    right; simp; omega
theorem isS (nm : ByteArray) (p : Nat) (x0 : ByteArray) (A1 : Option Addr) (n1 c1 : Nat) (x2 : ByteArray) (w : World) (hp : w.heap[p]? = some (.cells #[.string nm] 9 (0, 0))) : Calls Try.prog 81 #[.agg #[.string x0, .slice A1 n1 c1, .string x2], .pointer (some ⟨p, 0, none⟩)] w fun e w' => e = .returned (.bool (x0.toList == nm.toList)) ∧ Below w.heap.size w w' := by
 have hu := Try.underlying61
 have hc := zad (zal hp (.cells #[.string x0, .slice A1 n1 c1, .string x2] 61 (0, 0))) 0
 simp only [List.getElem?_toArray, List.getElem?_cons_zero] at hc
 have HP := zaa.mk hp
 clear hp
 go_enter Try.func81, Try.ntmps81
 go_wp2
 go_ret
 exact ⟨rfl, (Below.refl _ _).alloc (Nat.le_refl _) _⟩
theorem zlA (A0 : Option Addr) (c0 : Nat) (l0 : List (S61)) (nm : ByteArray) (p : Nat) (w : World) (hr0 : Kd.C k61 w A0 l0.length l0) (hl : l0.length < 4398046511104) (hp : w.heap[p]? = some (.cells #[.string nm] 9 (0, 0))) :
  Calls Try.prog 87 #[.slice A0 l0.length c0, .func (.func 81) #[] #[.pointer (some ⟨p, 0, none⟩)]] w fun e w' => e = .returned (.int .i64 (idxS nm l0 0)) ∧ Below w.heap.size w w' := by
 have HR0 := zaa.mk hr0
 have HP := zaa.mk hp
 have hu := Try.underlying61
 obtain ⟨r, hr⟩ : ∃ r, r = idxS nm l0 0 := ⟨_, rfl⟩
 rw [← hr]
 have HH := zaa.mk hr.symm
 clear hr0 hp hr
 go_enter Try.func87, Try.ntmps87
 go_wp2
 go_loopw [8] (fun v8 wr => ∃ i : Nat, i ≤ l0.length ∧ v8 = .int .i64 i ∧ zaa (idxS nm (l0.drop i) i = r ∧ Below w.heap.size w wr)) (fun v8 _ => l0.length - (intOf v8).toNat)
 case atStart => exact ⟨0, Nat.zero_le _, rfl, ⟨HH.out, Below.refl _ _⟩⟩
 case round =>
  obtain ⟨i, hi, rfl, ⟨hI, hB⟩⟩ := hrel
  have HB := zaa.mk hB
  by_cases hlt : i < l0.length
  ·
   obtain ⟨ad, A1, c1, hA, x0, x1, x2, _⟩ := zdM (Kd.zat HR0.out hB) (i : Int) o9 o9
   simp only [Int.toNat_natCast] at x0 x1 x2
   have HA := zlj nm l0 i hlt
   rw [hI] at HA
   obtain ⟨x, hx⟩ : ∃ x, x = za6 l0 (i : Int) := ⟨_, rfl⟩
   rw [← hx] at HA x0 x1 x2
   have HPR := zaa.mk ((hB.block p (zai HP.out)).trans HP.out)
   clear hx hI hB
   subst hA
   by_cases he : x.f0.toList = nm.toList
   ·
    rw [if_pos he] at HA
    have HQ := zaa.mk (show (x.f0.toList == nm.toList) = true by simpa using he)
    subst HA
    clear he
    go_wp2_with fail
    refine (isS nm p x.f0 A1 x.f1.length c1 x.f2 _ HPR.out).mono ?_
    rintro e w2 ⟨rfl, hb⟩
    rw [HQ.out]
    have HB2 := zaa.mk (HB.out.trans (hb.mono HB.out.size))
    clear hb
    go_wp2_with fail
    go_ret
    exact ⟨rfl, HB2.out⟩
   ·
    rw [if_neg he] at HA
    have HQ := zaa.mk (show (x.f0.toList == nm.toList) = false by simpa using he)
    have HA2 := zaa.mk HA.symm
    clear he HA
    go_wp2_with fail
    refine (isS nm p x.f0 A1 x.f1.length c1 x.f2 _ HPR.out).mono ?_
    rintro e w2 ⟨rfl, hb⟩
    rw [HQ.out]
    have HB2 := zaa.mk (HB.out.trans (hb.mono HB.out.size))
    clear hb
    go_wp2_with fail
    go_roundw
    case rel => exact ⟨i + 1, by omega, by go_num, ⟨HA2.out, HB2.out⟩⟩
    case measure => simp [intOf]; omega
  ·
   have hi2 : i = l0.length := by omega
   rw [hi2, List.drop_length] at hI
   have HA2 := zaa.mk hI
   clear hI hi2 hB
   go_wp2_with fail
   go_ret
   exact ⟨by rw [← HA2.out]; rfl, HB.out⟩
def zec (s : ByteArray) (l : List (S61)) : S61 := if idxS s l 0 < 0 then z61 else za6 l (idxS s l 0)
theorem findS (A0 : Option Addr) (c0 : Nat) (l0 : List (S61)) (nm : ByteArray) (p : Nat) (w : World) (hr0 : Kd.C k61 w A0 l0.length l0) (hl : l0.length < 4398046511104) (hp : w.heap[p]? = some (.cells #[.string nm] 9 (0, 0))) :
  Calls Try.prog 80 #[.slice A0 l0.length c0, .func (.func 81) #[] #[.pointer (some ⟨p, 0, none⟩)]] w fun e w' => ∃ y, y = zec nm l0 ∧ ∃ (A1 : Option Addr) (c1 : Nat),  e = .returned (.tuple #[.agg #[.string y.f0, .slice A1 y.f1.length c1, .string y.f2], .int .i64 (if idxS nm l0 0 < 0 then 0 else idxS nm l0 0), .bool (!decide (idxS nm l0 0 < 0))]) ∧ y.f1.length ≤ c1 ∧ Kd.C k58 w' A1 y.f1.length y.f1 ∧ Below w.heap.size w w' := by
 have hu := Try.underlying61
 have HI := zaa.mk (zlA A0 c0 l0 nm p (w.alloc (.cells #[.string ⟨#[]⟩, .slice none 0 0, .string ⟨#[]⟩] 61 (0, 0))) (Kd.zat hr0 ((Below.refl _ _).alloc (Nat.le_refl _) _)) hl (zal hp _))
 have HR0 := zaa.mk hr0
 have hrange := ziz nm l0 0
 unfold zec
 obtain ⟨r, hr⟩ : ∃ r, r = idxS nm l0 0 := ⟨_, rfl⟩
 rw [← hr] at HI hrange ⊢
 clear hr0 hp hr
 by_cases hneg : r < 0
 ·
  rw [if_pos hneg, if_pos hneg]
  have hd : decide (r < 0) = true := by simpa using hneg
  rw [hd]
  clear hrange
  go_enter Try.func80, Try.ntmps80
  go_wp2_with fail
  refine HI.out.mono ?_
  rintro e w1 ⟨rfl, hb⟩
  have HB1 := zaa.mk (((Below.refl w.heap.size w).alloc (Nat.le_refl _) (.cells #[.string ⟨#[]⟩, .slice none 0 0, .string ⟨#[]⟩] 61 (0, 0))).trans (hb.mono s9))
  have hg1 := (hb.block w.heap.size s9).trans (at_new w (.cells #[.string ⟨#[]⟩, .slice none 0 0, .string ⟨#[]⟩] 61 (0, 0)) rfl)
  have HG1 := zaa.mk hg1
  have g0 := zad hg1 0
  have f0 := free_at hg1 0
  have g1 := zad hg1 1
  have f1 := free_at hg1 1
  have g2 := zad hg1 2
  have f2 := free_at hg1 2
  simp only [List.getElem?_toArray, List.getElem?_cons_zero, List.getElem?_cons_succ] at g0 g1 g2
  clear hb hg1 HI
  go_wp2_with fail
  refine bodyPost_ret (zcm rfl _ _ w.heap.size 61 #[.string ⟨#[]⟩, .slice none 0 0, .string ⟨#[]⟩] (0, 0) _ rfl ?_ Try.underlying61 rfl k9) rfl ⟨z61, rfl, none, 0, rfl, Nat.le_refl _, Kd.C_nil _ _, ?_⟩
  ·
   exact (zaf (zaf (zaf HG1.out 0 _ rfl) 1 _ rfl) 2 _ rfl)
  ·
   exact (zaR (zaR (zaR HB1.out (Nat.le_refl _)) (Nat.le_refl _)) (Nat.le_refl _))
 ·
  rw [if_neg hneg, if_neg hneg]
  have hd : decide (r < 0) = false := by simpa using hneg
  rw [hd]
  obtain ⟨m, rfl⟩ : ∃ m : Nat, r = m := ⟨r.toNat, by omega⟩
  have hm : m < l0.length := by omega
  obtain ⟨y, hy⟩ : ∃ y, y = za6 l0 (m : Int) := ⟨_, rfl⟩
  rw [← hy]
  have HY := zaa.mk hy
  clear hrange hy
  go_enter Try.func80, Try.ntmps80
  go_wp2_with fail
  refine HI.out.mono ?_
  rintro e w1 ⟨rfl, hb⟩
  have HB1 := zaa.mk (((Below.refl w.heap.size w).alloc (Nat.le_refl _) (.cells #[.string ⟨#[]⟩, .slice none 0 0, .string ⟨#[]⟩] 61 (0, 0))).trans (hb.mono s9))
  have hg1 := (hb.block w.heap.size s9).trans (at_new w (.cells #[.string ⟨#[]⟩, .slice none 0 0, .string ⟨#[]⟩] 61 (0, 0)) rfl)
  have HG1 := zaa.mk hg1
  have g0 := zad hg1 0
  have f0 := free_at hg1 0
  have g1 := zad hg1 1
  have f1 := free_at hg1 1
  have g2 := zad hg1 2
  have f2 := free_at hg1 2
  simp only [List.getElem?_toArray, List.getElem?_cons_zero, List.getElem?_cons_succ] at g0 g1 g2
  have HB0 := zaa.mk (show Below w.heap.size w w1 from HB1.out)
  obtain ⟨ad, A1, c1, hA, x0, x1, x2, l1, C1⟩ := zdM HR0.out (m : Int) o9 o9
  replace x0 := (HB1.out.cell (block_lt_of_cell x0)).trans x0
  replace x1 := (HB1.out.cell (block_lt_of_cell x1)).trans x1
  replace x2 := (HB1.out.cell (block_lt_of_cell x2)).trans x2
  simp only [Int.toNat_natCast] at x0 x1 x2
  rw [← HY.out] at x0 x1 x2 l1 C1
  skip
  have H1 := zaa.mk C1
  clear C1
  clear hb hg1 HI
  subst hA
  go_wp2_with fail
  refine bodyPost_ret (zcm rfl _ _ w.heap.size 61 #[.string y.f0, .slice A1 y.f1.length c1, .string y.f2] (0, 0) _ rfl ?_ Try.underlying61 rfl k9) rfl ⟨y, rfl, A1, c1, rfl, l1, Kd.zat H1.out (zaR (zaR (zaR HB1.out (Nat.le_refl _)) (Nat.le_refl _)) (Nat.le_refl _)), ?_⟩
  ·
   exact (zaf (zaf (zaf HG1.out 0 _ rfl) 1 _ rfl) 2 _ rfl)
  ·
   exact (zaR (zaR (zaR HB1.out (Nat.le_refl _)) (Nat.le_refl _)) (Nat.le_refl _))
def at1 (l : List (S64)) (nm : ByteArray) : Int := if idxC nm l 0 < 0 then 0 else idxC nm l 0
def is1 (l : List (S64)) (nm : ByteArray) : Bool := !decide (idxC nm l 0 < 0)
theorem zh2 (A0 : Option Addr) (c0 : Nat) (l0 : List (S64)) (nm : ByteArray) (w : World) (hr0 : Kd.C k64 w A0 l0.length l0) (hl : l0.length < 4398046511104) :
  Calls Try.prog 84 #[.slice A0 l0.length c0, .string nm] w fun e w' => e = .returned (.tuple #[.int .i64 (at1 l0 nm), .bool (is1 l0 nm)]) ∧ Below w.heap.size w w' := by
 have hmf : ∀ (fn : Fn) (first cap : Array Value) (w : World), (Instr.makeFunc fn first cap).run Try.prog w = .ok (.func fn first cap) w := fun _ _ _ _ => rfl
 have hu := Try.underlying64
 have HF := zaa.mk (findC A0 c0 l0 nm w.heap.size (w.alloc (.cells #[.string nm] 9 (0, 0))) (Kd.zat hr0 ((Below.refl _ _).alloc (Nat.le_refl _) _)) hl (at_new w _ rfl))
 unfold at1 is1
 obtain ⟨r, hr⟩ : ∃ r, r = (if idxC nm l0 0 < 0 then 0 else idxC nm l0 0) := ⟨_, rfl⟩
 obtain ⟨b, hb⟩ : ∃ b, b = !decide (idxC nm l0 0 < 0) := ⟨_, rfl⟩
 rw [← hr, ← hb] at HF ⊢
 clear hr hb hr0
 go_enter Try.func84, Try.ntmps84
 go_wp2_with fail
 refine HF.out.mono ?_
 rintro e w1 ⟨y, hy, A2, c2, A3, c3, rfl, h2, h3, h4, h5, hb1⟩
 have HB1 := zaa.mk (((Below.refl w.heap.size w).alloc (Nat.le_refl _) (.cells #[.string nm] 9 (0, 0))).trans (hb1.mono s9))
 clear hy h2 h3 h4 h5 hb1 HF
 go_wp2_with fail
 go_ret2
 exact ⟨rfl, HB1.out.alloc HB1.out.size _⟩
section
variable {F : Fence} {n : Nat} {P : Program} {ops : Array Oper} {rest : List Oper} {o : Oper} {a : Act} {Q : Exit → Act → World → Prop} {α : Type}
theorem zd5 (enc : α → Value) {h1c : ∀ x, (enc x).oneCell' = true} (W : World) (hgd : o.guard = none) (s x : Operand) (t e : TypeId) (z : Value) (bytes : Nat)
  (ho : o.op = .call { callee := .builtin .append, args := #[s, x], argTypes := #[t, t] })
  (ht : P.underlying t = some (.slice e)) (hinfo : (P.info? e).map (fun i => (i.zero, i.size, i.bytes)) = some (some z, 1, bytes)) (hz : z.cells.size = 1) (hb0 : 0 < bytes)
  (base : Nat) (ok : Nat → Prop) (v : Value) (xs : List α) (p : α) (g c : Nat) (hs : a.eval s = v) (hx : a.eval x = .slice (some ⟨g, 0, none⟩) 1 c) (hg : W.cell? ⟨g, 0, none⟩ = some (enc p))
  (HO : (Kd.scalar enc h1c).R e W base ok v xs) (hbase : base ≤ W.heap.size) (hl : (xs.length + 1) * bytes ≤ 140737488355328)
  (h : ∀ v1 w1, (Kd.scalar enc h1c).R e w1 base (fun k => ok k ∨ W.heap.size ≤ k) v1 (xs ++ [p]) → W.grownBy w1 v.ownBlock → wpListIn F n P ops Q rest (a.put o.dst v1) w1) :
  wpListIn F n P ops Q (o :: rest) a W := by
 obtain ⟨i0, hi, hzz⟩ := Option.map_eq_some_iff.1 hinfo
 simp only [Prod.mk.injEq] at hzz
 obtain ⟨hz0, hz1, hz2⟩ := hzz
 have hlen : xs.length + 1 ≤ 140737488355328 := Nat.le_trans (Nat.le_mul_of_pos_right _ hb0) hl
 have hown := Kd.zf4 HO
 obtain ⟨v1, w1, hrun, r1, r2, _, hat⟩ := run_append_own_at (P := P) W base t o.type e i0 z 1 bytes ht hi hz0 hz1 hz2 hz o9 v xs.length (encs enc xs) hown ⟨g, 0, none⟩ 1 c [enc p] rfl
  (fun j u hj => by
   cases j with
   | zero => simp only [List.getElem?_cons_zero, Option.some.injEq] at hj; subst hj; exact hg
   | succ j => simp at hj)
  (fun u hu => by rw [List.mem_singleton.1 hu]; exact h1c p) (by simp only [maxLen]; omega) hl hbase
 refine wpListIn_plain hgd fun K hK' => ?_
 unfold Oper.wpIn
 refine ⟨?_, ?_⟩
 ·
  simp [Oper.about, ho, resolve, Target.leads, Sem.run_pure]
 ·
  rw [Oper.semAt_plain F _ _ (by rw [ho]; intro c hc'; cases hc')]
  simp [execOp, ho, resolve, invoke, builtin, hs, hx, hrun, Result.andThen]
  refine hK' _ _ (h v1 w1 (Kd.zfM ?_ (fun k hk => ?_)) r2)
  ·
   rw [List.length_append]
   have he : encs enc (xs ++ [p]) = encs enc xs ++ [enc p] := by simp [encs]
   rw [he]; exact r1
  ·
   rcases hat with e1 | e1
   ·
    exact .inl (HO.1 k (by rw [← e1]; exact hk))
   ·
    rw [e1] at hk
    injection hk with hk
    right; omega
end
def idxN (s : ByteArray) : List ByteArray → Nat → Int
 | [], _ => -1
 | x :: r, i => if s.toList = x.toList then (i : Int) else idxN s r (i + 1)
theorem zlq (s : ByteArray) (l : List ByteArray) (i : Nat) (h : i < l.length) : idxN s (l.drop i) i = if s.toList = (rdOf ByteArray.empty l (i : Int)).toList then (i : Int) else idxN s (l.drop (i + 1)) (i + 1) := by
 rw [List.drop_eq_getElem_cons h]
 unfold rdOf
 rw [Int.toNat_natCast, List.getD_eq_getElem?_getD, List.getElem?_eq_getElem h]; rfl
def hasN (s : ByteArray) (l : List ByteArray) : Bool := decide (idxN s l 0 ≥ 0)
theorem zhS (s : ByteArray) : ∀ (l : List ByteArray) (i : Nat), decide (idxN s l i ≥ 0) = l.any fun x => decide (s.toList = x.toList)
 | [], i => rfl
 | x :: r, i => by
  unfold idxN
  by_cases h : s.toList = x.toList
  ·
   simp [h]
  ·
   rw [if_neg h, zhS s r (i + 1)]; simp [h]
theorem zkd (s : ByteArray) (l : List ByteArray) : hasN s l = l.any fun x => decide (s.toList = x.toList) := zhS s l 0
theorem zgx (A0 : Option Addr) (c0 : Nat) (l0 : List ByteArray) (a1 : ByteArray) (w : World) (hr0 : Kd.C Kd.string w A0 l0.length l0) (hl : l0.length < 4398046511104) :
  Calls Try.prog 66 #[.slice A0 l0.length c0, .string a1] w fun e w' => e = .returned (.int .i64 (idxN a1 l0 0)) ∧ w' = w := by
 obtain ⟨r, hr⟩ : ∃ r, r = idxN a1 l0 0 := ⟨_, rfl⟩
 rw [← hr]
 have HH := zaa.mk hr.symm
 have HR0 := zaa.mk hr0
 clear hr0 hr
 go_enter Try.func66, Try.ntmps66
 go_wp2
 go_loop [8] (fun v8 => ∃ i : Nat, i ≤ l0.length ∧ v8 = .int .i64 i ∧ zaa (idxN a1 (l0.drop i) i = r)) (fun v8 => l0.length - (intOf v8).toNat)
 case atStart => exact ⟨0, Nat.zero_le _, rfl, HH⟩
 case round =>
  obtain ⟨i, hi, rfl, HI⟩ := hrel
  by_cases hlt : i < l0.length
  ·
   obtain ⟨ad, hA, x0⟩ := Kd.zeF HR0.out (i : Int) o9 o9
   rw [Int.toNat_natCast] at x0
   have HA := zlq a1 l0 i hlt
   rw [HI.out] at HA
   obtain ⟨x, hx⟩ : ∃ x, x = rdOf ByteArray.empty l0 (i : Int) := ⟨_, rfl⟩
   rw [← hx] at HA x0
   clear hx
   subst hA
   by_cases he : a1.toList = x.toList
   ·
    rw [if_pos he] at HA
    have hq : (a1.toList == x.toList) = true := by simpa using he
    subst HA
    clear he
    go_wp2
    go_ret
    exact ⟨rfl, rfl⟩
   ·
    rw [if_neg he] at HA
    have hq : (a1.toList == x.toList) = false := by simpa using he
    have HA2 := zaa.mk HA.symm
    clear he HA
    go_wp2
    go_round
    case rel => exact ⟨i + 1, by omega, by go_num, HA2⟩
    case measure => simp [intOf]; omega
  ·
   have hi2 : i = l0.length := by omega
   have HA := HI.out
   rw [hi2, List.drop_length] at HA
   have HA2 := zaa.mk HA
   clear HA hi2
   go_wp2
   go_ret
   exact ⟨by rw [← HA2.out]; rfl, rfl⟩
theorem zeU (A0 : Option Addr) (c0 : Nat) (l0 : List ByteArray) (a1 : ByteArray) (w : World) (hr0 : Kd.C Kd.string w A0 l0.length l0) (hl : l0.length < 4398046511104) :
  Calls Try.prog 48 #[.slice A0 l0.length c0, .string a1] w fun e w' => e = .returned (.bool (hasN a1 l0)) ∧ w' = w := by
 unfold hasN
 have HI := zaa.mk (zgx A0 c0 l0 a1 w hr0 hl)
 obtain ⟨r, hr⟩ : ∃ r, r = idxN a1 l0 0 := ⟨_, rfl⟩
 rw [← hr] at HI ⊢
 clear hr0 hr
 go_enter Try.func48, Try.ntmps48
 go_wp2_with fail
 refine HI.out.mono ?_
 rintro e w1 ⟨rfl, rfl⟩
 clear HI
 go_wp2_with fail
 go_ret
 exact ⟨rfl, rfl⟩
theorem zd8 {s s' : ByteArray} (h : s.toList = s'.toList) : ∀ (l : List (S64)) (i : Nat), idxC s l i = idxC s' l i
 | [], _ => rfl
 | x :: r, i => by unfold idxC; rw [h, zd8 h r (i + 1)]
def clsAt (t : List (S64)) (p : Nat) : S64 := zar t (p : Int)
theorem zim (x : S64) (r : List (S64)) (p : Nat) : clsAt (x :: r) (p + 1) = clsAt r p := by
 unfold clsAt zar
 rw [Int.toNat_natCast, Int.toNat_natCast]; rfl
theorem zgI (s : ByteArray) : ∀ (l : List (S64)) (i : Nat), 0 ≤ idxC s l i → ∃ j, j < l.length ∧ idxC s l i = ((i + j : Nat) : Int) ∧ (clsAt l j).f0.toList = s.toList
 | [], i, h => by simp [idxC] at h
 | x :: r, i, h => by
  unfold idxC at h ⊢
  by_cases hx : x.f0.toList = s.toList
  ·
   rw [if_pos hx]; exact ⟨0, by simp, by simp, hx⟩
  ·
   rw [if_neg hx] at h ⊢
   obtain ⟨j, h1, h2, h3⟩ := zgI s r (i + 1) h
   exact ⟨j + 1, by simp; omega, by rw [h2]; congr 1; omega, by rw [zim]; exact h3⟩
theorem zdi (s : ByteArray) (t : List (S64)) (h : ¬ idxC s t 0 < 0) : (idxC s t 0).toNat < t.length ∧ (clsAt t (idxC s t 0).toNat).f0.toList = s.toList ∧ idxC (clsAt t (idxC s t 0).toNat).f0 t 0 = ((idxC s t 0).toNat : Int) := by
 obtain ⟨j, h1, h2, h3⟩ := zgI s t 0 o9
 rw [Nat.zero_add] at h2
 rw [h2, Int.toNat_natCast]
 exact ⟨h1, h3, by rw [zd8 h3]; exact h2⟩
def lineP (t : List (S64)) : Nat → List Nat → ByteArray → List Nat
 | 0, _, _ => []
 | k + 1, pre, nm => if idxC nm t 0 < 0 then [] else if (idxC nm t 0).toNat ∈ pre then [] else (idxC nm t 0).toNat :: lineP t k (pre ++ [(idxC nm t 0).toNat]) (clsAt t (idxC nm t 0).toNat).f1
def lineL (t : List (S64)) (nm : ByteArray) : List Nat := lineP t (t.length + 1) [] nm
theorem zgp : ∀ (l m : List Nat), l.Nodup → (∀ x ∈ l, x ∈ m) → l.length ≤ m.length
 | [], m, _, _ => by simp
 | x :: l, m, h, hm => by
  rw [List.nodup_cons] at h
  have := zgp l (m.erase x) h.2 (fun y hy => (List.mem_erase_of_ne (fun e => by subst e; exact h.1 hy)).2 (hm y (List.mem_cons_of_mem _ hy)))
  have hx := hm x List.mem_cons_self
  rw [List.length_erase_of_mem hx] at this
  have := List.length_pos_of_mem hx
  simp only [List.length_cons]; omega
structure LineI (t : List (S64)) (pre : List Nat) : Prop where
 nd : pre.Nodup
 first : ∀ q ∈ pre, q < t.length ∧ idxC (clsAt t q).f0 t 0 = (q : Int)
theorem LineI.nil (t : List (S64)) : LineI t [] := ⟨List.nodup_nil, fun q h => by cases h⟩
theorem LineI.len {t : List (S64)} {pre : List Nat} (h : LineI t pre) : pre.length ≤ t.length := by
 have := zgp pre (List.range t.length) h.nd (fun x hx => List.mem_range.2 (h.first x hx).1)
 simpa using this
theorem LineI.snoc {t : List (S64)} {pre : List Nat} (h : LineI t pre) (nm : ByteArray) (hn : ¬ idxC nm t 0 < 0) (hp : (idxC nm t 0).toNat ∉ pre) : LineI t (pre ++ [(idxC nm t 0).toNat]) := by
 obtain ⟨h1, _, h3⟩ := zdi nm t hn
 refine ⟨?_, fun q hq => ?_⟩
 ·
  rw [List.nodup_append]
  refine ⟨h.nd, by simp, fun a ha b hb => ?_⟩
  rw [List.mem_singleton] at hb
  rintro rfl
  exact hp (hb ▸ ha)
 ·
  rcases List.mem_append.1 hq with hq | hq
  ·
   exact h.first q hq
  ·
   rw [List.mem_singleton.1 hq]; exact ⟨h1, h3⟩
def came (t : List (S64)) (pre : List Nat) : List ByteArray := pre.map fun p => (clsAt t p).f0
theorem zja {t : List (S64)} {pre : List Nat} (h : LineI t pre) (nm : ByteArray) (hn : ¬ idxC nm t 0 < 0) : hasN nm (came t pre) = decide ((idxC nm t 0).toNat ∈ pre) := by
 obtain ⟨h1, h2, h3⟩ := zdi nm t hn
 rw [zkd, Bool.eq_iff_iff]
 simp only [came, List.any_map, List.any_eq_true, Function.comp_apply, decide_eq_true_eq]
 constructor
 ·
  rintro ⟨q, hq, he⟩
  have h4 := (h.first q hq).2
  rw [← zd8 he] at h4
  rw [h4, Int.toNat_natCast]; exact hq
 ·
  intro hq
  exact ⟨_, hq, h2.symm⟩
theorem zcq (t : List (S64)) : ∀ (k : Nat) (pre : List Nat) (nm : ByteArray) (q : Nat), q ∈ lineP t k pre nm → q < t.length
 | 0, _, _, q, h => by cases h
 | k + 1, pre, nm, q, h => by
  unfold lineP at h
  by_cases h1 : idxC nm t 0 < 0
  ·
   rw [if_pos h1] at h; cases h
  ·
   rw [if_neg h1] at h
   by_cases h2 : (idxC nm t 0).toNat ∈ pre
   ·
    rw [if_pos h2] at h; cases h
   ·
    rw [if_neg h2] at h
    rcases List.mem_cons.1 h with rfl | h
    ·
     exact (zdi nm t h1).1
    ·
     exact zcq t k _ _ q h
theorem zfj (A0 : Option Addr) (n0 c0 : Nat) (nm : ByteArray) (w : World) :
  Calls Try.prog 74 #[.slice A0 n0 c0, .string nm] w fun e w' => e = .returned (.func (.func 83) #[] #[.pointer (some ⟨w.heap.size, 0, none⟩), .pointer (some ⟨w.heap.size + 1, 0, none⟩)]) ∧
   w' = (w.alloc (.cells #[.slice A0 n0 c0] 22)).alloc (.cells #[.string nm] 9) := by
 go_enter Try.func74, Try.ntmps74
 go_wp2
 go_ret
 exact ⟨rfl, rfl⟩
theorem toList_inj {a b : ByteArray} (h : a.toList = b.toList) : a = b := by
 have h2 : a.data.toList = b.data.toList := by rw [Go.ByteArray.toList_eq, Go.ByteArray.toList_eq] at h; exact h
 exact ByteArray.ext (Array.toList_inj.1 h2)
def encP (A0 : Option Addr) (p : Nat) : Value := .pointer (A0.map fun ad => ad.add (p * 4))
structure LnI (t : List (S64)) (nm0 : ByteArray) (A0 : Option Addr) (c0 n₀ : Nat) (w : World) (Bt Bn : Nat) (J : List Nat → (Nat → Prop) → World → Prop) (v : Value) (pre : List Nat) (nm : ByteArray) (k : Nat) (O : Nat → Prop) (wr : World) : Prop where
 all : pre ++ lineP t k pre nm = lineL t nm0
 fuel : k + pre.length = t.length + 1
 lineI : LineI t pre
 j : J pre O wr
 lt : ∀ k, O k → k < wr.heap.size
 row : Kd.string.R 9 wr w.heap.size O v (came t pre)
 bt : wr.heap[Bt]? = some (.cells #[.slice A0 t.length c0] 22 (0, 0))
 bn : wr.heap[Bn]? = some (.cells #[.string nm] 9 (0, 0))
 bl : Below n₀ w wr
 ot : O Bt
 on : O Bn
theorem zdA (t : List (S64)) (pre : List Nat) : (came t pre).length = pre.length := by simp [came]
theorem LnI.pure {t : List (S64)} {nm0 : ByteArray} {A0 : Option Addr} {c0 n₀ : Nat} {w : World} {Bt Bn : Nat} {J : List Nat → (Nat → Prop) → World → Prop} {v : Value} {pre : List Nat} {nm : ByteArray} {k : Nat} {O : Nat → Prop} {wr w1 : World}
  (h : LnI t nm0 A0 c0 n₀ w Bt Bn J v pre nm k O wr) (hJ : Stable J) (hb : Below wr.heap.size wr w1) (hn₀ : n₀ ≤ w.heap.size) : LnI t nm0 A0 c0 n₀ w Bt Bn J v pre nm k O w1 :=
 ⟨h.all, h.fuel, h.lineI, hJ _ O O _ _ h.j (Mv.zb2 hb O) (fun _ h => h) (fun _ h => .inl h), fun k hk => Nat.lt_of_lt_of_le (h.lt k hk) hb.size, Kd.zbC h.row hb,
  (hb.block Bt (zai h.bt)).trans h.bt, (hb.block Bn (zai h.bn)).trans h.bn, h.bl.trans (hb.mono (Nat.le_trans hn₀ h.bl.size)), h.ot, h.on⟩
theorem LnI.more {t : List (S64)} {nm0 : ByteArray} {A0 : Option Addr} {c0 n₀ : Nat} {w : World} {Bt Bn : Nat} {J : List Nat → (Nat → Prop) → World → Prop} {v : Value} {pre : List Nat} {nm : ByteArray} {k : Nat} {O : Nat → Prop} {wr : World}
  (h : LnI t nm0 A0 c0 n₀ w Bt Bn J v pre nm k O wr) : ∃ k', k = k' + 1 := by
 have := h.fuel
 have := h.lineI.len
 exact ⟨k - 1, by omega⟩
theorem zjz {t : List (S64)} {nm : ByteArray} (h : idxC nm t 0 < 0) : at1 t nm = 0 ∧ is1 t nm = false := by unfold at1 is1; simp [h]
theorem zjJ {t : List (S64)} {nm : ByteArray} (h : ¬ idxC nm t 0 < 0) : at1 t nm = ((idxC nm t 0).toNat : Int) ∧ is1 t nm = true := by unfold at1 is1; simp [h]; omega
theorem ze9 (n : Nat) (hn : 2 ≤ n) (A0 : Option Addr) (c0 : Nat) (t : List (S64)) (nm0 : ByteArray) (Bt Bn n₀ : Nat) (w : World) (hr : Kd.C k64 w A0 t.length t) (hn₀ : n₀ ≤ w.heap.size)
  (hC : ∀ w', Below n₀ w w' → Kd.C k64 w' A0 t.length t) (hlt : t.length < 4398046511104) (hbt : n₀ ≤ Bt) (hbn : n₀ ≤ Bn) (hne : Bt ≠ Bn)
  (hBt : w.heap[Bt]? = some (.cells #[.slice A0 t.length c0] 22 (0, 0))) (hBn : w.heap[Bn]? = some (.cells #[.string nm0] 9 (0, 0))) :
  Iter Fence.wide n Try.prog 83 #[.pointer (some ⟨Bt, 0, none⟩), .pointer (some ⟨Bn, 0, none⟩)] (fun p : Nat => #[encP A0 p]) (fun l => l <+: lineL t nm0) (fun l => l = lineL t nm0) (fun k => k = Bt ∨ k = Bn) (fun k => k < n₀) w := by
 intro l J Jx O W hJ hJx hY hmv hO hOl h0
 have hn1 : 1 ≤ n - 1 := by omega
 have hB1 := hmv.at hBt (fun h => h)
 have hB2 := hmv.at hBn (fun h => h)
 have hu := Try.underlying64
 refine callsIn_of_wp Try.func83 rfl trivial ?_ rfl
 simp only [Try.ntmps83, List.size_toArray, List.length_cons, List.length_nil, Nat.reduceAdd, Nat.reduceSub, Array.replicate_succ, Array.replicate_zero, List.push_toArray, List.append_toArray, List.nil_append, List.cons_append]
 gi_wp2
 gi_loopw [4] (fun v4 wr => ∃ pre nm k O, (∃ A c, v4 = .slice A pre.length c) ∧ zaa (LnI t nm0 A0 c0 n₀ w Bt Bn J v4 pre nm k O wr))
  (fun v4 _ => t.length + 1 - (match v4 with | .slice _ m _ => m | _ => 0))
 case atStart => 
  refine ⟨[], nm0, t.length + 1, O, ⟨none, 0, rfl⟩, ⟨?_⟩⟩
  exact ⟨rfl, rfl, LineI.nil t, h0, hOl, Kd.R_nil _ _ _ _ _, hB1, hB2, hmv.below o9 (fun k h => h.elim), hO _ (.inl rfl), hO _ (.inr rfl)⟩
 case round =>
  obtain ⟨pre, nm, k, O, ⟨A, c, rfl⟩, ⟨hI⟩⟩ := hrel
  have hc1 := zad hI.bt 0
  have hc2 := zad hI.bn 0
  simp only [List.getElem?_toArray, List.getElem?_cons_zero] at hc1 hc2
  have HI := zaa.mk hI
  have HF := zaa.mk ((callsIn_wide (n := n - 1)).2 (zh2 A0 c0 t nm wr (hC _ hI.bl) hlt))
  have HWB := zaa.mk (zai hBn)
  clear hI h0 hB1 hB2 hBt hBn
  gi_wp2
  refine ⟨trivial, fun _ => by omega, HF.out.mono ?_⟩
  rintro e w1 ⟨rfl, hb1⟩
  replace HI := zaa.mk (HI.out.pure hJ hb1 hn₀)
  clear hb1 HF hc1 hc2
  obtain ⟨k', rfl⟩ := HI.out.more
  by_cases hneg : idxC nm t 0 < 0
  ·
   rw [(zjz hneg).1, (zjz hneg).2]
   have HN := zaa.mk hneg
   clear hneg hY
   gi_wp2
   refine ⟨trivial, ?_⟩
   gi_wp2
   refine ⟨fun _ h => (by cases h), ?_⟩
   gi_wp2
   refine bodyPost_ret (results_none rfl _ _ _) rfl ?_
   refine ⟨⟨_, rfl⟩, .inl ⟨pre, O, ?_, HI.out.j, HI.out.lt⟩⟩
   have := HI.out.all
   unfold lineP at this
   rw [if_pos HN.out, List.append_nil] at this
   exact this
  ·
   rw [(zjJ hneg).1, (zjJ hneg).2]
   obtain ⟨p, hp⟩ : ∃ p, p = (idxC nm t 0).toNat := ⟨_, rfl⟩
   have HP := zaa.mk hp
   have HN := zaa.mk (show 0 ≤ idxC nm t 0 by omega)
   rw [← hp]
   clear hp hneg
   have hc2 := zad HI.out.bn 0
   have hc1 := zad HI.out.bt 0
   simp only [List.getElem?_toArray, List.getElem?_cons_zero] at hc1 hc2
   have hK := zeU A c (came t pre) nm w1 (by
    obtain ⟨A', c', e, _, h⟩ := Kd.zb4 HI.out.row
    rw [zdA] at e
    cases e
    exact h) (by rw [zdA]; have := HI.out.lineI.len; omega)
   rw [zdA, zja HI.out.lineI nm (Int.not_lt.2 HN.out), ← HP.out] at hK
   have HK := zaa.mk ((callsIn_wide (n := n - 1)).2 hK)
   clear hK
   gi_wp2
   refine ⟨trivial, fun _ => by omega, HK.out.mono ?_⟩
   rintro e w2 ⟨rfl, rfl⟩
   clear HK
   by_cases hin : p ∈ pre
   ·
    rw [decide_eq_true hin]
    have HIN := zaa.mk hin
    clear hin hY
    gi_wp2
    refine ⟨fun _ h => (by cases h), ?_⟩
    gi_wp2
    refine bodyPost_ret (results_none rfl _ _ _) rfl ?_
    refine ⟨⟨_, rfl⟩, .inl ⟨pre, O, ?_, HI.out.j, HI.out.lt⟩⟩
    have := HI.out.all
    unfold lineP at this
    rw [if_neg (Int.not_lt.2 HN.out), ← HP.out, if_pos HIN.out, List.append_nil] at this
    exact this
   ·
    rw [decide_eq_false hin]
    have hall := HI.out.all
    unfold lineP at hall
    rw [if_neg (Int.not_lt.2 HN.out), ← HP.out, if_neg hin] at hall
    have hpl : p < t.length := by rw [HP.out]; exact (zdi nm t (Int.not_lt.2 HN.out)).1
    have HPL := zaa.mk hpl
    have HLI := zaa.mk (show LineI t (pre ++ [p]) by have := HI.out.lineI.snoc nm (Int.not_lt.2 HN.out); rw [← HP.out] at this; exact this hin)
    have HA := zaa.mk hall
    obtain ⟨ad, A2, c2, A3, c3, hA0, x0, x1, _⟩ := zdD (hC _ HI.out.bl) (p : Int) o9 o9
    subst hA0
    obtain ⟨fn, tmps, assign, body, hy, hR⟩ := hY pre p O w2 HI.out.j ⟨_, by rw [← hall, List.append_assoc, List.singleton_append]⟩ HI.out.lt
    have HR := zaa.mk hR
    clear hR hY hpl hall hin
    simp only [encP, Option.map_some] at hy
    have pl0 : (0 : Int) ≤ (p : Int) := by omega
    have pl1 : (p : Int) < (t.length : Int) := by have := HPL.out; omega
    gi_wp2
    refine ⟨fun _ => by omega, HR.out.mono ?_⟩
    rintro e W3 (⟨rfl, hJ3, hm3⟩ | ⟨rfl, hJx3, hm3⟩)
    ·
     have hbt3 := hm3.at HI.out.bt (fun h => h.1 HI.out.ot)
     have hbn3 := hm3.at HI.out.bn (fun h => h.1 HI.out.on)
     have hrow3 : Kd.string.R 9 W3 w.heap.size O (.slice A pre.length c) (came t pre) := Kd.zcv HI.out.row (fun k ho hk => hm3.block k hk (fun h => h.1 ho))
     have hbl3 : Below n₀ w W3 := HI.out.bl.trans (hm3.below (Nat.le_trans hn₀ HI.out.bl.size) (fun k h => Nat.not_lt.1 h.2))
     have hol3 : ∀ k, O k → k < W3.heap.size := fun k hk => Nat.lt_of_lt_of_le (HI.out.lt k hk) hm3.size
     have HBT3 := zaa.mk hbt3
     have HBN3 := zaa.mk hbn3
     have HROW3 := zaa.mk hrow3
     have HBL3 := zaa.mk hbl3
     have HOL3 := zaa.mk hol3
     have HJ3 := zaa.mk hJ3
     have hc2 := zad hbn3 0
     simp only [List.getElem?_toArray, List.getElem?_cons_zero] at hc2
     clear x0 x1 hy hc1 hJ3 hm3 hbt3 hbn3 hrow3 hbl3 hol3
     have hinfo := info9
     gi_wp2_with (gi_at_builtin; refine zd5 Value.string (h1c := fun _ => rfl) _ rfl _ _ 65 9 (.string ⟨#[]⟩) 16 rfl Try.underlying65 info9 rfl d9 w.heap.size O (.slice A pre.length c) (came t pre) nm W3.heap.size 1 rfl rfl ?hg (Kd.zbt HROW3.out _) ?hb ?hl ?_)
     case hg => exact (zad (at_new W3 _ rfl) 0).trans rfl
     case hb => have := HBL3.out.size; simp; omega
     case hl => rw [zdA]; have := HLI.out.len; simp at this; omega
     intro v4 w4 hR4 hg4
     obtain ⟨W4, hW4⟩ : ∃ W4, W4 = W3.alloc (.cells #[.string nm] 9) := ⟨_, rfl⟩
     have hs4 : W4.heap.size = W3.heap.size + 1 := by rw [hW4]; simp
     rw [← hW4] at hg4
     have hown3 : Kd.string.R 9 W4 w.heap.size O (.slice A pre.length c) (came t pre) := by rw [hW4]; exact Kd.zbt HROW3.out _
     have hwb : Bn < w.heap.size := HWB.out
     have hrowO : ∀ k, (Value.slice A pre.length c).ownBlock = some k → O k ∧ w.heap.size ≤ k := fun k hk => by
      have := (Kd.zbB hown3).1 k hk
      exact ⟨this.1, this.2.1⟩
     have hbt4 : W4.heap[Bt]? = some (.cells #[.slice (some ad) t.length c0] 22 (0, 0)) := by rw [hW4]; exact zal HBT3.out _
     have hbn4 : W4.heap[Bn]? = some (.cells #[.string nm] 9 (0, 0)) := by rw [hW4]; exact zal HBN3.out _
     have hbt5 : w4.heap[Bt]? = some (.cells #[.slice (some ad) t.length c0] 22 (0, 0)) := (hg4.block Bt (zai hbt4) (Kd.R_ne hown3 hbt4 d9)).trans hbt4
     have hbn5 : w4.heap[Bn]? = some (.cells #[.string nm] 9 (0, 0)) := (hg4.block Bn (zai hbn4) (fun e => by have := (hrowO Bn e.symm).2; omega)).trans hbn4
     have hmv4 : Mv O W3 W4 := by rw [hW4]; exact (Mv.refl _ _).alloc _
     have hmv5 : Mv O W3 w4 := hmv4.grown hg4 (fun k e => .inl (hrowO k e).1)
     have hmn4 : Mv (fun k => n₀ ≤ k) W3 W4 := by rw [hW4]; exact (Mv.refl _ _).alloc _
     have hbl5 : Below n₀ w w4 := HBL3.out.trans ((hmn4.grown hg4 (fun k e => .inl (Nat.le_trans hn₀ (hrowO k e).2))).below (Nat.le_trans hn₀ HBL3.out.size) (fun _ h => h))
     have hrowB : ∀ k, (Value.slice A pre.length c).ownBlock = some k → k ≠ Bn := fun k e => by have := (hrowO k e).2; omega
     obtain ⟨ad', A2', c2', A3', c3', e', x0, x1, _⟩ := zdD (hC _ hbl5) (p : Int) o9 (by have := HPL.out; omega)
     cases e'
     have pl1 : (p : Int) < (t.length : Int) := by have := HPL.out; omega
     have hc2 := zad hbn5 0
     have hf2 := free_at hbn5 0
     have hc1 := zad hbt5 0
     simp only [List.getElem?_toArray, List.getElem?_cons_zero] at hc1 hc2
     simp only [Int.toNat_natCast] at x0 x1
     obtain ⟨A4, c4, hv4⟩ := Kd.zbj hR4
     rw [List.length_append, zdA, List.length_singleton] at hv4
     subst hv4
     have HR4 := zaa.mk hR4
     have HBT5 := zaa.mk hbt5
     have HBN5 := zaa.mk hbn5
     have HMV5 := zaa.mk hmv5
     have HBL5 := zaa.mk hbl5
     have HS4 := zaa.mk hs4
     clear hR4 hg4 hown3 hrowO hbt4 hbn4 hbt5 hbn5 hmv4 hmv5 hbl5 hs4 x0 hinfo
     gi_wp2
     go_roundw
     case rel =>
      refine ⟨pre ++ [p], (clsAt t p).f1, k', fun k => O k ∨ (W3.heap.size ≤ k ∧ k < w4.heap.size), ⟨A4, c4, by simp⟩, ⟨?_⟩⟩
      have hmv6 := HMV5.out.setCell (p := ⟨Bn, 0, none⟩) (.inl HI.out.on) (.string (clsAt t p).f1)
      have hset : ∀ {k : Nat} {o : Obj}, w4.heap[k]? = some o → k ≠ Bn → (w4.setCell ⟨Bn, 0, none⟩ (.string (clsAt t p).f1)).heap[k]? = some o := fun h hk => at_set h (by simpa using hk) _
      refine ⟨?_, by have := HI.out.fuel; simp; omega, HLI.out, hJ _ _ _ _ _ HJ3.out hmv6 (fun _ h => .inl h) (fun k h => h.imp id (fun h => h.1)), ?_, ?_, hset HBT5.out hne, ?_, ?_, .inl HI.out.ot, .inl HI.out.on⟩
      ·
       rw [List.append_assoc, List.singleton_append]; exact HA.out
      ·
       intro k hk
       rcases hk with hk | hk
       ·
        have := HOL3.out k hk; have := HMV5.out.size; simp [World.setCell]; omega
       ·
        have := hk.2; simpa [World.setCell] using this
      ·
       have h1 : Kd.string.R 9 w4 w.heap.size (fun k => O k ∨ (W3.heap.size ≤ k ∧ k < w4.heap.size)) (.slice A4 (pre.length + 1) c4) (came t (pre ++ [p])) := by
        have h2 := Kd.za0 (Kd.zbB HR4.out) (ok' := fun k => O k ∨ (W3.heap.size ≤ k ∧ k < w4.heap.size)) (fun k hk => by
         rcases hk.1 with h | h
         ·
          exact .inl h
         ·
          exact .inr ⟨by omega, hk.2.2.1⟩)
        have e : came t (pre ++ [p]) = came t pre ++ [nm] := by
         have := (zdi nm t (Int.not_lt.2 HN.out)).2.1
         rw [← HP.out] at this
         simp [came, toList_inj this]
        rw [e]
        exact h2
       refine Kd.za0 (Kd.R_far (p := ⟨Bn, 0, none⟩) (Kd.zbB h1) (fun k hk => by have := hk.2.1; have := HWB.out; simp; omega) _) (fun _ hk => hk.1)
      ·
       exact (zcK HBN5.out 0 (.string (clsAt t p).f1)).trans s9
      ·
       exact HBL5.out.trans (((Mv.refl (fun k => n₀ ≤ k) _).setCell (.inl hbn) _).below (Nat.le_trans hn₀ HBL5.out.size) (fun _ h => h))
     case measure => simp; have := HLI.out.len; simp at this; omega
    ·
     have hJx3' := zaa.mk hJx3
     have hm3' := zaa.mk hm3
     clear hJx3 hm3 hy hc1 hc2
     gi_wp2
     refine bodyPost_ret (results_none rfl _ _ _) rfl ?_
     exact ⟨⟨_, rfl⟩, .inr ⟨_, O, hJx3'.out, fun j hj => Nat.lt_of_lt_of_le (HI.out.lt j hj) hm3'.out.size⟩⟩
end Go.Proofs.YtinkbljjpafadaaTab
end

section
namespace Go.Proofs.YtinkbljjpafadaaTab
open Go.RowKit Go.Proofs.Ytinkbljjpafadaa.PAll Go.Proofs.YtinkbljjpafadaaW.PrintWords Go.Proofs.YtinkbljjpafadaaW.PrintLast Go.Proofs.YtinkbljjpafadaaRF Go.Proofs.YtinkbljjpafadaaRG Go.Shelf Go.Lib Go.Sort
attribute [local go_sem] Oper.semAt_some
theorem zki (A0 : Option Addr) (blk cap : Nat) (d : Array Nat) (w : World) (hH : Holds (encP A0) w blk 0 d) (hsz : d.size ≤ 9223372036854775807) :
  Calls Try.prog 75 #[.slice (some ⟨blk, 0, none⟩) d.size cap] w fun e w' => e = .returned (.tuple #[]) ∧ ∃ n, w' = putRow (encP A0) (Sort.ahead w n) blk 0 d.reverse := by
 have mixed : Try.prog.follows .mixedOrders = true := by kernel_rfl
 go_enter Try.func75, Try.ntmps75
 go_wp2
 go_loopg [2, 3] d.size (fun k s2 s3 wr => ∃ (i jn : Nat) (jz : Int) (dk : Array Nat) (n : Nat), s2 = .int .i64 i ∧ s3 = .int .i64 jz ∧ ((i : Int) < jz → jz = jn ∧ jn < d.size) ∧ (¬ (i : Int) < jz → ¬ i < jn) ∧ jn - i ≤ k ∧
  dk.size = d.size ∧ wr = putRow (encP A0) (Sort.ahead w n) blk 0 dk ∧ reverseLoop i jn dk = reverseLoop 0 (d.size - 1) d)
 case atStart => exact ⟨0, d.size - 1, (d.size : Int) - 1, d, 0, rfl, rfl, fun h => ⟨by omega, by omega⟩, fun h => by omega, by omega, rfl, (putRow_self (encP A0) w blk 0 d hH).symm, rfl⟩
 case round =>
  obtain ⟨i, jn, jz, dk, n, rfl, rfl, h1, h2, hk, hds, hwr, heq⟩ := hrel
  by_cases hlt : (i : Int) < jz
  ·
   obtain ⟨rfl, hjn⟩ := h1 hlt
   have hij : i < jn := by omega
   have hHk : Holds (encP A0) wr blk 0 dk := by rw [hwr]; exact holds_putRow (encP A0) _ blk 0 d dk (holds_ahead (encP A0) w n blk 0 d hH) hds
   obtain ⟨ci, fi⟩ := hHk i o9
   obtain ⟨cj, fj⟩ := hHk jn o9
   simp only [Nat.zero_add] at ci fi cj fj
   have A : Aside (wr = putRow (encP A0) (Sort.ahead w n) blk 0 dk) := hwr
   clear hwr hHk hH h1 h2
   simp only [encP] at ci cj
   go_wp2_with fail
   go_region_o
   go_wp2
   go_roundg (jn - 1 - (i + 1))
   case measure => omega
   case rel =>
    rw [reverseLoop, if_pos hij] at heq
    have hj' : jn < dk.size := by omega
    have hsw := swap_world (encP A0) (i := i) (j := jn) o9 o9 A.out (x := .pointer (A0.map fun ad => ad.add (dk[jn]'hj' * 4))) (y := .pointer (A0.map fun ad => ad.add (dk[i]! * 4))) (by simp [encP, getElem!_pos, hj']) rfl
    simp only [Nat.zero_add] at hsw
    exact ⟨i + 1, jn - 1, (jn : Int) - 1, swp dk i jn, n + 1, by simp, rfl, fun h => ⟨by omega, by omega⟩, fun h => by omega, Nat.le_refl _, by rw [size_swp]; exact hds, hsw, heq⟩
  ·
   have hnot := h2 hlt
   go_wp2
   go_end0
   refine ⟨rfl, n, ?_⟩
   rw [reverseLoop, if_neg hnot] at heq
   rw [← Lib.reverseLoop_reverse, ← heq]
theorem zik (a : Option Addr) (cap : Nat) (w : World) :
  Calls Try.prog 75 #[.slice a 0 cap] w fun e w' => e = .returned (.tuple #[]) ∧ w' = w := by
 go_enter Try.func75, Try.ntmps75
 go_wp2
 go_loopg [2, 3] 0 (fun _ s2 s3 wr => s2 = .int .i64 0 ∧ s3 = .int .i64 (-1) ∧ wr = w)
 case atStart => exact ⟨rfl, rfl, rfl⟩
 case round =>
  obtain ⟨rfl, rfl, rfl⟩ := hrel
  go_wp2
  go_end0
  exact ⟨rfl, rfl⟩
structure OutI {α : Type} (enc : α → Value) (h1 : ∀ x, (enc x).oneCell' = true) (T e n₀ : Nat) (w0 : World) (Bo : Nat) (pre : List α) (O : Nat → Prop) (W : World) : Prop where
 box : ∃ v, Mine Bo (.cells #[v] T (0, 0)) O W ∧ (Kd.scalar enc h1).R e W n₀ (fun k => ¬ O k) v pre
 bl : Below n₀ w0 W
 lo : ∀ k, O k → n₀ ≤ k
theorem OutI.stable {α : Type} (enc : α → Value) (h1 : ∀ x, (enc x).oneCell' = true) (T e n₀ : Nat) (w0 : World) (hn : n₀ ≤ w0.heap.size) (Bo : Nat) : Stable (OutI enc h1 T e n₀ w0 Bo) := fun s O O' W W' h hm h1' h2 => by
 obtain ⟨v, hb, hr⟩ := h.box
 have hst : Mine Bo (.cells #[v] T (0, 0)) O' W' := Mine.stable (β := Unit) (fun _ => _) (fun _ => _) () O O' W W' hb hm h1' h2
 refine ⟨⟨v, hst, ?_⟩, h.bl.trans (hm.below (Nat.le_trans hn h.bl.size) h.lo), fun k hk => (h2 k hk).elim (h.lo k) (fun x => by have := h.bl.size; omega)⟩
 refine Kd.za0 (Kd.zbB (Kd.zcv (ok := fun k => ¬ O k ∧ k < W.heap.size) (Kd.za0 (Kd.zbB hr) (fun k hk => ⟨hk.1, hk.2.2.1⟩)) (fun k hk hl => hm.block k hl hk.1))) (fun k hk => ?_)
 exact fun e => (h2 k e).elim hk.1.1 (fun x => by have := hk.1.2; omega)
theorem infoP : (Try.prog.info? 104).map (fun i => (i.zero, i.size, i.bytes)) = some (some (.pointer none), 1, 8) := by kernel_rfl
theorem OutI.put {α : Type} {enc : α → Value} {h1 : ∀ x, (enc x).oneCell' = true} {T e n₀ : Nat} {w0 : World} {Bo : Nat} {pre : List α} {x : α} {O : Nat → Prop} {W W4 w1 : World} {v v1 : Value} (hTe : e ≠ T) (hn : n₀ ≤ w0.heap.size) (hB : n₀ ≤ Bo)
  (hl : ∀ k, O k → k < W.heap.size) (hm : Mine Bo (.cells #[v] T (0, 0)) O W) (hr : (Kd.scalar enc h1).R e W n₀ (fun k => ¬ O k) v pre) (hb : Below n₀ w0 W) (hlo : ∀ k, O k → n₀ ≤ k)
  (hmv : Mv (fun _ => False) W W4) (hr1 : (Kd.scalar enc h1).R e w1 n₀ (fun k => ¬ O k ∨ W4.heap.size ≤ k) v1 (pre ++ [x])) (hg : W4.grownBy w1 v.ownBlock) :
  Mv (fun k => ¬ (O k ∨ k < n₀)) W (w1.setCell ⟨Bo, 0, none⟩ v1) ∧ OutI enc h1 T e n₀ w0 Bo (pre ++ [x]) O (w1.setCell ⟨Bo, 0, none⟩ v1) := by
 have hrow : ∀ k, v.ownBlock = some k → ¬ O k ∧ n₀ ≤ k := fun k hk => by
  have := (Kd.zbB hr).1 k hk
  exact ⟨this.1, this.2.1⟩
 have hmv1 : Mv (fun k => ¬ (O k ∨ k < n₀)) W W4 := hmv.mono (fun _ _ h => h.elim)
 have hmv2 := hmv1.grown hg (fun k e => .inl (fun h => h.elim (hrow k e).1 (fun h => by have := (hrow k e).2; omega)))
 have hBo4 := hmv.at hm.1 (fun h => h)
 have hne : some Bo ≠ v.ownBlock := Kd.R_ne hr hm.1 hTe
 have hBo1 : w1.heap[Bo]? = some (.cells #[v] T (0, 0)) := (hg.block Bo (zai hBo4) hne).trans hBo4
 have hmv3 := hmv2.setCell (p := ⟨Bo, 0, none⟩) (.inl (fun h => h.elim hm.2 (fun h => by simp at h; omega))) v1
 refine ⟨hmv3, ⟨v1, ⟨by simpa using zcK hBo1 0 v1, hm.2⟩, ?_⟩, hb.trans (hmv3.below (Nat.le_trans hn hb.size) (fun k h => Nat.not_lt.1 (fun h' => h (.inr h')))), hlo⟩
 refine Kd.R_set (Kd.za0 hr1 (fun k hk => ?_)) hBo1 (fun q hq => ?_) 0 v1
 ·
  rcases hk with hk | hk
  ·
   exact hk
  ·
   exact fun h => by have := hl k h; have := hmv.size; omega
 ·
  simp [Kd.scalar] at hq
  rw [hq]; exact hTe
theorem zcZ {P : Program} {fn : Func} {p : Tmp} {ty : TypeId} (h : fn.results = #[.cell p ty]) (tmps : Array Value) (w : World) (g : Nat) (t : TypeId) (v : Value) (e : TypeId)
  (hp : tmps.getD p undef = .pointer (some ⟨g, 0, none⟩)) (hg : w.heap[g]? = some (.cells #[v] t (0, 0))) (hu : P.underlying ty = some (.slice e)) : (results fn tmps).run P w = .ok v w := by
 have hp' : tmps[p]?.getD undef = .pointer (some ⟨g, 0, none⟩) := by simpa using hp
 have hc := zad hg 0
 simp only [List.getElem?_toArray, List.getElem?_cons_zero] at hc
 have ha : (isAgg ty).run P w = .ok false w := by simp [isAgg, go_sem, run_underlying hu]
 simp [results, h, hp', asAddr, go_sem, hu, hc, ha]
theorem zc6 (t : List (S64)) : ∀ (k : Nat) (pre : List Nat) (nm : ByteArray), (lineP t k pre nm).length ≤ k
 | 0, _, _ => by simp [lineP]
 | k + 1, pre, nm => by
  unfold lineP
  by_cases h1 : idxC nm t 0 < 0
  ·
   rw [if_pos h1]; simp
  ·
   rw [if_neg h1]
   by_cases h2 : (idxC nm t 0).toNat ∈ pre
   ·
    rw [if_pos h2]; simp
   ·
    rw [if_neg h2]
    have := zc6 t k (pre ++ [(idxC nm t 0).toNat]) (clsAt t (idxC nm t 0).toNat).f1
    simp; omega
theorem zdQ (t : List (S64)) (nm : ByteArray) : (lineL t nm).length ≤ t.length + 1 := zc6 t _ _ _
theorem zhl (enc : Nat → Value) {W : World} {base g cap e n : Nat} {ss ts : List Nat} (hl : ts.length = ss.length) (ho : W.ownsRow base e 1 (.slice (some ⟨g, 0, none⟩) ss.length cap) ss.length (encs enc ss)) :
  Holds enc W g 0 ss.toArray ∧ (putRow enc (Sort.ahead W n) g 0 ts.toArray).ownsRow base e 1 (.slice (some ⟨g, 0, none⟩) ts.length cap) ts.length (encs enc ts) ∧ W.grownBy (putRow enc (Sort.ahead W n) g 0 ts.toArray) (some g) := by
 rcases ho.2 with ⟨h0, _⟩ | ⟨g', cap', cur, hv, hbase, hb, r1, r2, r3, r4⟩
 ·
  cases h0
 cases hv
 have hg : g < W.heap.size := zai hb
 have hb' : (putRow enc (Sort.ahead W n) g 0 ts.toArray).heap[g]? = some (.cells (putCells enc 0 ts.toArray cur) e (0, 0)) := by
  simp [putRow, mapBlock, Sort.ahead, Array.getElem?_modify, hb, onCells]
 refine ⟨?_, ⟨by simp [encs], .inr ⟨g, cap, _, rfl, hbase, hb', by omega, r2, by simp [putCells, r3], ?_⟩⟩, ⟨rfl, rfl, rfl, by simp [putRow, mapBlock, Sort.ahead], fun k hk hne => ?_⟩⟩
 ·
  intro j hj
  have hj' : j < ss.length := by simpa using hj
  refine ⟨?_, by simp [World.frozen?, hb]⟩
  have h1 : (cur.toList.take (ss.length * 1))[j]? = (encs enc ss)[j]? := by rw [r4]
  rw [List.getElem?_take_of_lt o9] at h1
  simp only [World.cell?, hb, Nat.zero_add]
  simp only [Option.isSome_none, Bool.false_eq_true, if_false]
  rw [← Array.getElem?_toList, h1]
  simp [encs, hj']
 ·
  rw [Nat.mul_one]
  have hle : ts.length ≤ cur.size := by omega
  apply List.ext_getElem?
  intro j
  by_cases hj : j < ts.length
  ·
   rw [List.getElem?_take_of_lt hj, Array.getElem?_toList]
   simp [putCells, encs, hj, show j < cur.size by omega]
  ·
   rw [List.getElem?_take_eq_none o9, List.getElem?_eq_none (by simp [encs]; omega)]
 ·
  have : g ≠ k := fun e => hne (by rw [e])
  simp [putRow, mapBlock, Sort.ahead, Array.getElem?_modify, this]
theorem zew (A0 : Option Addr) (c0 : Nat) (t : List (S64)) (nm : ByteArray) (w : World) (hr0 : Kd.C k64 w A0 t.length t) (hlt : t.length < 4398046511104) :
  Calls Try.prog 60 #[.slice A0 t.length c0, .string nm] w fun e w' => ∃ v, e = .returned v ∧ (Kd.scalar (encP A0) (fun _ => rfl)).R 104 w' w.heap.size (fun _ => True) v (lineL t nm).reverse ∧ Below w.heap.size w w' := by
 refine (callsIn_wide (n := 5)).1 ?_
 refine callsIn_of_wp_marks Try.func60 rfl trivial ?_ rfl
 simp only [Try.ntmps60, List.size_toArray, List.length_cons, List.length_nil, Nat.reduceAdd, Nat.reduceSub, Array.replicate_succ, Array.replicate_zero, List.push_toArray, List.append_toArray, List.nil_append, List.cons_append]
 gi_wp2_with (refine ⟨trivial, ?_⟩; gi_at_call 74; refine ((callsIn_wide (n := 4)).2 (zfj _ _ _ _ _)).mono ?_; rintro e w' ⟨rfl, rfl⟩)
 obtain ⟨W1, hW1⟩ : ∃ W1, W1 = (((w.alloc (Obj.cells #[Value.slice none 0 0] 102)).alloc (Obj.cells #[Value.slice A0 t.length c0] 22)).alloc (Obj.cells #[Value.string nm] 9)) := ⟨_, rfl⟩
 have b0 : W1.heap[w.heap.size]? = some (.cells #[.slice none 0 0] 102 (0, 0)) := by rw [hW1]; exact zal (zal (at_new w _ rfl) _) _
 have b1 : W1.heap[w.heap.size + 1]? = some (.cells #[Value.slice A0 t.length c0] 22 (0, 0)) := by rw [hW1]; exact zal (at_new _ _ s9) _
 have b2 : W1.heap[w.heap.size + 1 + 1]? = some (.cells #[.string nm] 9 (0, 0)) := by rw [hW1]; exact at_new _ _ s9
 have hsz : W1.heap.size = w.heap.size + 3 := by rw [hW1]; simp
 have hbl : Below w.heap.size w W1 := by rw [hW1]; exact (((Below.refl _ _).alloc (Nat.le_refl _) _).alloc s9 _).alloc (by simp; omega) _
 rw [← hW1]
 refine zfS (n := 5) rfl o9 83 #[.pointer (some ⟨w.heap.size + 1, 0, none⟩), .pointer (some ⟨w.heap.size + 1 + 1, 0, none⟩)] rfl trivial (zc2 Try.func83 k9 rfl)
  (fun p : Nat => #[encP A0 p]) (fun _ => rfl) (fun k => k = w.heap.size + 1 ∨ k = w.heap.size + 1 + 1) (fun k => k < w.heap.size) (fun k hk => by rcases hk with rfl | rfl <;> omega) (fun k h => by omega)
  (ze9 4 o9 A0 c0 t nm _ _ w.heap.size W1 (Kd.zat hr0 hbl) hbl.size (fun w' h => Kd.zat hr0 (hbl.trans h)) hlt o9 o9 o9 b1 b2)
  (OutI (encP A0) (fun _ => rfl) 102 104 w.heap.size w w.heap.size) (fun _ _ _ _ => False) (OutI.stable _ _ _ _ _ _ (Nat.le_refl _) _) (fun _ _ _ _ _ _ h _ _ _ => h.elim) ?_
  (fun x => { tmps := #[.slice A0 t.length c0, .string nm, undef, undef, .pointer (some ⟨w.heap.size, 0, none⟩), encP A0 x, .slice A0 t.length c0, .string nm, .func (.func 83) #[] #[.pointer (some ⟨w.heap.size + 1, 0, none⟩), .pointer (some ⟨w.heap.size + 1 + 1, 0, none⟩)],
   encP A0 x, undef, undef, undef, undef, undef, undef, undef], defers := [] }) ?assign ?body ?done (fun _ _ _ _ _ _ _ _ h _ => h.elim)
 ·
  intro O hO W hW
  have hno : ¬ O w.heap.size := fun e => by rcases hO _ e with (h | h) | h <;> omega
  exact ⟨⟨_, ⟨hW.at b0 (fun h => h), hno⟩, Kd.R_nil _ _ _ _ _⟩, hbl.trans (hW.below hbl.size (fun _ h => h.elim)), fun k hk => by rcases hO k hk with (h | h) | h <;> omega⟩
 case assign =>
  intro l x W K hK
  gi_wp2
  exact hK
 case body =>
  intro l pre x O W hI hpre hOl hOlp hrec hOO hsz2
  obtain ⟨⟨v, hm, hr⟩, hb, hlo⟩ := hI
  obtain ⟨A, c, hv⟩ := Kd.zbj hr
  subst hv
  have hc := zad hm.1 0
  have hf := free_at hm.1 0
  simp only [List.getElem?_toArray, List.getElem?_cons_zero] at hc
  have HM := zaa.mk hm
  have HR := zaa.mk hr
  have HL := zaa.mk (show pre.length < t.length + 1 by have := zdQ t nm; have := hpre.length_le; simp at this; omega)
  clear hm hr
  obtain ⟨q, hq⟩ : ∃ q, encP A0 x = .pointer q := ⟨_, rfl⟩
  rw [hq]
  gi_wp2_with (gi_at_builtin; refine zd5 (encP A0) (h1c := fun _ => rfl) _ rfl _ _ 102 104 (.pointer none) 8 rfl Try.underlying102 infoP rfl d9 w.heap.size (fun k => ¬ O k) (.slice A pre.length c) pre x W.heap.size 1 rfl rfl ?hg (Kd.zbt HR.out _) ?hb ?hl ?_)
  case hg => rw [hq]; exact (zad (at_new W _ rfl) 0).trans rfl
  case hb => have := hb.size; simp; omega
  case hl => have := HL.out; omega
  intro v1 w1 hR1 hg1
  obtain ⟨W4, hW4⟩ : ∃ W4, W4 = W.alloc (.cells #[.pointer q] 104) := ⟨_, rfl⟩
  have hs4 : W4.heap.size = W.heap.size + 1 := by rw [hW4]; simp
  rw [← hW4] at hg1
  have hmv4 : Mv (fun _ => False) W W4 := by rw [hW4]; exact (Mv.refl _ _).alloc _
  have key := OutI.put (T := 102) d9 (Nat.le_refl _) (Nat.le_refl _) hOl HM.out HR.out hb hlo hmv4 (Kd.za0 hR1 (fun k h => h.imp id (fun h => by omega))) hg1
  have hm1 := (hg1.block w.heap.size (zai (hmv4.at HM.out.1 (fun h => h))) (Kd.R_ne HR.out HM.out.1 d9)).trans (hmv4.at HM.out.1 (fun h => h))
  have hc := zad hm1 0
  have hf := free_at hm1 0
  simp only [List.getElem?_toArray, List.getElem?_cons_zero] at hc
  obtain ⟨A1, c1, hv1⟩ := Kd.zbj hR1
  rw [List.length_append, List.length_singleton] at hv1
  subst hv1
  have KEY := zaa.mk key
  clear key hm1 hR1 hg1 hmv4 hs4 hW4 hb hlo
  gi_wp2
  exact KEY.out
 case done =>
  intro D xs O W hD hOD hOl hS hI hK
  subst hS
  obtain ⟨⟨v, hm, hr⟩, hb, hlo⟩ := hI
  have hown := Kd.zf4 hr
  have hc := zad hm.1 0
  simp only [List.getElem?_toArray, List.getElem?_cons_zero] at hc
  have HM := zaa.mk hm
  rcases hown.2 with ⟨rfl, hz⟩ | ⟨g, cap, cur, rfl, hbase, hgb, r1, r2, r3, r4⟩
  ·
   have hl : lineL t nm = [] := List.eq_nil_of_length_eq_zero hz
   have HL := zaa.mk hl
   have hB := zaa.mk hb
   have HLO := zaa.mk hlo
   have hf := free_at hm.1 0
   clear hr hown hm hb hl hlo
   gi_wp2_with (refine ⟨trivial, ?_⟩; gi_at_call 75; refine ((callsIn_wide (n := 4)).2 (zik none 0 W)).mono ?_; rintro e w' ⟨rfl, rfl⟩)
   have hDB : w.heap.size ≠ D := fun e => by have h1 := HM.out.1; rw [e, hK] at h1; cases h1
   have hsetD : (w'.setCell ⟨w.heap.size, 0, none⟩ (.slice none 0 0)).heap[D]? = some (.deferred (some [])) := at_set hK (by simpa using hDB.symm) _
   refine ⟨by simp, .inl ⟨_, _, rfl, run_takeDeferred hsetD, ?_⟩⟩
   refine ⟨.slice none 0 0, zcZ rfl _ _ w.heap.size 102 (.slice none 0 0) _ rfl (zcP (by simpa using zcK HM.out.1 0 (.slice none 0 0)) hDB _) Try.underlying102, ?_⟩
   have hfin := ((Mv.refl (fun k => w.heap.size ≤ k) w').setCell (p := ⟨w.heap.size, 0, none⟩) (.inl (Nat.le_refl _)) (.slice none 0 0)).putObj (r := D) (.inl o9) (.deferred none)
   rw [HL.out]
   exact ⟨_, rfl, Kd.R_nil _ _ _ _ _, hB.out.trans (hfin.below hB.out.size (fun _ h => h))⟩
  ·
   have HO := zaa.mk hown
   clear hr hm
   have hs : (lineL t nm).length ≤ 9223372036854775807 := by have := zdQ t nm; omega
   have hne : w.heap.size ≠ g := fun e => by have h1 := HM.out.1; rw [e, hgb] at h1; injection h1 with h1; injection h1 with _ h1; exact absurd h1 d9
   have hDg : D ≠ g := fun e => by rw [e, hgb] at hK; cases hK
   have hrev : Calls Try.prog 75 #[.slice (some ⟨g, 0, none⟩) (lineL t nm).length cap] W fun e w' => e = .returned (.tuple #[]) ∧ w'.ownsRow w.heap.size 104 1 (.slice (some ⟨g, 0, none⟩) (lineL t nm).length cap) (lineL t nm).reverse.length (encs (encP A0) (lineL t nm).reverse) ∧ W.grownBy w' (some g) := by
    refine (zki A0 g cap (lineL t nm).toArray W (zhl (n := 0) (encP A0) rfl hown).1 (by simpa using hs)).mono ?_
    rintro e w' ⟨rfl, m, rfl⟩
    have := (zhl (n := m) (encP A0) (List.length_reverse) hown).2
    rw [List.length_reverse] at this ⊢
    rw [List.reverse_toArray]
    exact ⟨rfl, this⟩
   have HREV := zaa.mk ((callsIn_wide (n := 4)).2 hrev)
   clear hrev hown r1 r2 r3 r4
   gi_wp2_with (refine ⟨trivial, ?_⟩; gi_at_call 75; refine HREV.out.mono ?_; rintro e w' ⟨rfl, hR', hg'⟩; have hm' := (hg'.block w.heap.size (zai HM.out.1) (by simpa using hne)).trans HM.out.1; have HM' := zaa.mk hm'; have HR' := zaa.mk hR'; have HG' := zaa.mk hg'; have hc' := zad hm' 0; have hf' := free_at hm' 0; simp only [List.getElem?_toArray, List.getElem?_cons_zero] at hc'; clear hm' hR' hg')
   have hDB : w.heap.size ≠ D := fun e => by have h1 := HM.out.1; rw [e, hK] at h1; cases h1
   have hD' := (HG'.out.block D (zai hK) (by simpa using hDg)).trans hK
   have hsetD : (w'.setCell ⟨w.heap.size, 0, none⟩ (.slice (some ⟨g, 0, none⟩) (lineL t nm).length cap)).heap[D]? = some (.deferred (some [])) := at_set hD' (by simpa using hDB.symm) _
   refine ⟨by simp, .inl ⟨_, _, rfl, run_takeDeferred hsetD, ?_⟩⟩
   refine ⟨_, zcZ rfl _ _ w.heap.size 102 (.slice (some ⟨g, 0, none⟩) (lineL t nm).length cap) _ rfl (zcP (by simpa using zcK HM'.out 0 (.slice (some ⟨g, 0, none⟩) (lineL t nm).length cap)) hDB _) Try.underlying102, ?_⟩
   have hfin := ((Mv.refl (fun k => w.heap.size ≤ k) W).grown HG'.out (fun k e => .inl (by cases e; exact hbase))).setCell (p := ⟨w.heap.size, 0, none⟩) (.inl (Nat.le_refl _)) (.slice (some ⟨g, 0, none⟩) (lineL t nm).length cap) |>.putObj (r := D) (.inl o9) (.deferred none)
   have hR2 : (Kd.scalar (encP A0) (fun _ => rfl)).R 104 w' w.heap.size (fun k => k = g) (.slice (some ⟨g, 0, none⟩) (lineL t nm).length cap) (lineL t nm).reverse := Kd.zfM HR'.out (fun k hk => by simp [Value.ownBlock] at hk; exact hk.symm)
   refine ⟨_, rfl, Kd.za0 (Kd.zcv hR2 (fun k hk hl => ?_)) (fun _ _ => trivial), hb.trans (hfin.below hb.size (fun _ h => h))⟩
   subst hk
   exact (World.putObj_heap_other o9).trans (Below.heap_setCell w' ⟨w.heap.size, 0, none⟩ _ k (by simpa using hne.symm))
end Go.Proofs.YtinkbljjpafadaaTab
end

section
namespace Go.Proofs.YtinkbljjpafadaaTab
open Go.RowKit Go.Proofs.Ytinkbljjpafadaa.PAll Go.Proofs.YtinkbljjpafadaaW.PrintWords Go.Proofs.YtinkbljjpafadaaW.PrintLast Go.Proofs.YtinkbljjpafadaaRF Go.Proofs.YtinkbljjpafadaaRG
attribute [local go_sem] Oper.semAt_some
def zcC (t : List (S64)) (l : List Nat) : List (S58) := l.flatMap fun p => (clsAt t p).f2
def zb5 (t : List (S64)) (nm : ByteArray) : List (S58) := zcC t (lineL t nm).reverse
theorem zgw (t : List (S64)) (l : List Nat) (i : Nat) (hi : i < l.length) : zcC t (l.take (i + 1)) = zcC t (l.take i) ++ (clsAt t (rdOf 0 l (i : Int))).f2 := by
 unfold zcC rdOf
 rw [Int.toNat_natCast, List.getD_eq_getElem?_getD, List.getElem?_eq_getElem hi, List.take_succ_eq_append_getElem hi, List.flatMap_append]
 simp only [List.flatMap_cons, List.flatMap_nil, List.append_nil, Option.getD_some]
theorem zii (t : List (S64)) (l : List Nat) (i : Nat) : (zcC t (l.take i)).length ≤ (zcC t l).length := by
 unfold zcC
 conv => rhs; rw [← List.take_append_drop i l]
 rw [List.flatMap_append, List.length_append]
 omega
theorem infoV : (Try.prog.info? 58).map (fun i => (i.zero, i.size, i.bytes)) = some (some (.agg #[(.string ⟨#[]⟩), (.string ⟨#[]⟩)]), 2, 32) := by kernel_rfl
theorem zeh (A0 : Option Addr) (c0 : Nat) (t : List (S64)) (nm : ByteArray) (w : World) (hr0 : Kd.C k64 w A0 t.length t) (hlt : t.length < 4398046511104) (hfl : (zb5 t nm).length < 4398046511104) :
  Calls Try.prog 42 #[.slice A0 t.length c0, .string nm] w fun e w' => ∃ v, e = .returned v ∧ Kd.R k58 58 w' w.heap.size (fun _ => True) v (zb5 t nm) ∧ Below w.heap.size w w' := by
 have hu := Try.underlying64
 have HLI := zaa.mk (zew A0 c0 t nm w hr0 hlt)
 have HR0 := zaa.mk hr0
 have HFL := zaa.mk hfl
 unfold zb5 at HFL ⊢
 have hLL : (lineL t nm).reverse.length ≤ t.length + 1 := by rw [List.length_reverse]; exact zdQ t nm
 have hin : ∀ q ∈ (lineL t nm).reverse, q < t.length := fun q hq => zcq t _ _ _ q (List.mem_reverse.1 hq)
 obtain ⟨L, hL⟩ : ∃ L, L = (lineL t nm).reverse := ⟨_, rfl⟩
 rw [← hL] at HLI HFL hin hLL ⊢
 have HIN := zaa.mk hin
 clear hr0 hfl hL hin
 go_enter Try.func42, Try.ntmps42
 go_wp2_with fail
 refine HLI.out.mono ?_
 rintro e w1 ⟨v, rfl, hR1, hb1⟩
 obtain ⟨A9, c9, rfl, hc9, hC9⟩ := Kd.zb4 hR1
 have HC9 := zaa.mk hC9
 have HB1 := zaa.mk hb1
 have HR1 := zaa.mk (Kd.zat HR0.out hb1)
 clear hR1 hC9 hb1 hc9 HLI
 go_wp2_with fail
 go_loopw [4, 11] (fun v4 v11 wr => ∃ i : Nat, i ≤ L.length ∧ v11 = .int .i64 i ∧ zaa (Kd.R k58 58 wr w1.heap.size (fun _ => True) v4 (zcC t (L.take i)) ∧ Below w1.heap.size w1 wr)) (fun _ v11 _ => L.length - (intOf v11).toNat)
 case atStart => exact ⟨0, Nat.zero_le _, rfl, ⟨by simpa [zcC] using Kd.R_nil _ _ _ _ _, Below.refl _ _⟩⟩
 case round =>
  obtain ⟨i, hi, rfl, ⟨hO, hB⟩⟩ := hrel
  have HB := zaa.mk hB
  have HO := zaa.mk hO
  obtain ⟨A4, c4, hv4⟩ := Kd.zbj hO
  subst hv4
  by_cases hlt2 : i < L.length
  ·
   obtain ⟨ad9, hA9, x9⟩ := (Kd.zdU (d := 0) (Kd.zat HC9.out hB)).at_ (i : Int) o9 o9
   obtain ⟨p, hp⟩ : ∃ p, p = rdOf 0 L (i : Int) := ⟨_, rfl⟩
   have hpl : p < t.length := by
    rw [hp]; unfold rdOf
    rw [Int.toNat_natCast, List.getD_eq_getElem?_getD, List.getElem?_eq_getElem hlt2]
    exact HIN.out _ (List.getElem_mem hlt2)
   have hsn := zgw t L i hlt2
   have hle := zii t L (i + 1)
   rw [← hp] at x9 hsn
   rw [hsn, List.length_append] at hle
   obtain ⟨ad, A2, c2, A3, c3, hA0, x0, x1, x2, x3, l2, C2, l3, C3⟩ := zdD (Kd.zat HR1.out hB) (p : Int) o9 o9
   rw [Int.toNat_natCast] at x9
   simp only [Int.toNat_natCast] at x0 x1 x2 x3
   subst hA9
   subst hA0
   simp only [encP, Option.map_some] at x9
   have H2 := zaa.mk C2
   have HLE := zaa.mk hle
   have HSN := zaa.mk hsn
   clear hO hB x0 x1 x3 C2 C3 l2 l3 hle hsn hpl hp
   have i0 : (0 : Int) ≤ (i : Int) := by omega
   have i1 : (i : Int) < (L.length : Int) := by omega
   go_wp2_with ((with_reducible refine zaL (N := 20) rfl ?_); refine Kd.zcz k58 (Rr := k58.K wr) (w0 := w1) (W := wr) w1.heap.size rfl (.tmp 15) (.tmp 19) 59 58 (.agg #[(.string ⟨#[]⟩), (.string ⟨#[]⟩)]) 32 rfl Try.underlying59 infoV rfl d9 o9 (.slice A4 (zcC t (L.take i)).length c4) (zcC t (L.take i)) (clsAt t p).f2 A2 (clsAt t p).f2.length c2 (fun _ => True) (fun _ => False) rfl (by first | rfl | simp [Act.eval]) HO.out H2.out (fun _ _ h => h) (fun _ h => h.elim) (fun _ _ => trivial) HB.out HB.out.size ?aL ?_; (case aL => have h1 := HLE.out; have h2 := HFL.out; omega); intro v1 w4 ho4 hb4 _ _; have HO4 := zaa.mk ho4; have HB4 := zaa.mk hb4; clear ho4 hb4)
   go_roundw
   case rel => exact ⟨i + 1, by omega, by go_num, ⟨by rw [HSN.out]; exact HO4.out, HB4.out⟩⟩
   case measure => simp [intOf]; omega
  ·
   have hi2 : i = L.length := by omega
   have HI2 := zaa.mk hi2
   clear hO hB hi2
   go_wp2_with fail
   go_ret
   refine ⟨_, rfl, ?_, HB1.out.trans (HB.out.mono HB1.out.size)⟩
   have := HO.out
   rw [HI2.out, List.take_length] at this
   rw [HI2.out, List.take_length]
   exact Kd.zbi this HB1.out.size
theorem zlh {α : Type} (d : Kd α) (W : World) (e base : Nat) (hb : base ≤ W.heap.size) : d.R e (W.alloc (.cells #[] e)) base (fun _ => True) (.slice (some ⟨W.heap.size, 0, none⟩) 0 0) [] :=
 ⟨fun _ _ => trivial, zct.lit (ps := []) (inner := []) W base (Reps.none _ _) hb s9⟩
theorem zef (A0 : Option Addr) (c0 : Nat) (l : List (S58)) (w : World) (hr0 : Kd.C k58 w A0 l.length l) (hl : l.length < 4398046511104) :
  Calls Try.prog 61 #[.slice A0 l.length c0] w fun e w' => ∃ v, e = .returned v ∧ Kd.R k58 58 w' w.heap.size (fun _ => True) v l ∧ Below w.heap.size w w' := by
 have q59 : ∀ (w : World) (a : Option Addr) (n c n' c' : Nat), (binOp .eql 59 (.slice a n c) (.slice none n' c')).run Try.prog w = .ok (.bool a.isNone) w := fun w a n c n' c' => Lib.run_eql_slice_nil w _ _ a n c n' c' Try.underlying59
 have HR0 := zaa.mk hr0
 cases A0 with
 | none =>
  have hl0 : l = [] := by
   have h0 : l.length = 0 := by
    rcases Nat.eq_zero_or_pos l.length with h0 | h0
    ·
     exact h0
    ·
     obtain ⟨ad, h, _⟩ := hr0.2.2 h0
     cases h
   exact List.eq_nil_of_length_eq_zero h0
  subst hl0
  clear hr0
  go_enter Try.func61, Try.ntmps61
  go_wp2_with fail
  go_ret
  exact ⟨_, rfl, Kd.R_nil _ _ _ _ _, Below.refl _ _⟩
 | some ad =>
  clear hr0
  go_enter Try.func61, Try.ntmps61
  go_wp2_with ((with_reducible refine zaL (N := 7) rfl ?_); refine Kd.zcz k58 (Rr := k58.K w) (w0 := w) (W := w.alloc (.cells #[] 58)) w.heap.size rfl (.tmp 5) (.tmp 6) 59 58 (.agg #[(.string ⟨#[]⟩), (.string ⟨#[]⟩)]) 32 rfl Try.underlying59 infoV rfl d9 o9 (.slice (some ⟨w.heap.size, 0, none⟩) 0 0) [] l (some ad) l.length c0 (fun _ => True) (fun _ => False) rfl rfl (zlh _ _ _ _ (Nat.le_refl _)) (Kd.zbr HR0.out _) (fun _ _ h => h) (fun _ h => h.elim) (fun _ _ => trivial) ((Below.refl _ _).alloc (Nat.le_refl _) _) ?aS ?aL ?_; (case aS => simp); (case aL => simp; omega); intro v1 w4 ho4 hb4 _ _; have HO4 := zaa.mk ho4; have HB4 := zaa.mk hb4; clear ho4 hb4)
  go_ret
  exact ⟨_, rfl, HO4.out, HB4.out⟩
def zhy (t : List (S64)) (cls nm : ByteArray) : ByteArray := (zfb nm (zb5 t cls)).f1
def zhO (t : List (S64)) (cls nm : ByteArray) : Bool := !decide (idxV nm (zb5 t cls) 0 < 0)
theorem zg0 (A0 : Option Addr) (c0 : Nat) (t : List (S64)) (cls nm : ByteArray) (w : World) (hr0 : Kd.C k64 w A0 t.length t) (hlt : t.length < 4398046511104) (hfl : (zb5 t cls).length < 4398046511104) :
  Calls Try.prog 69 #[.slice A0 t.length c0, .string cls, .string nm] w fun e w' => e = .returned (.tuple #[.string (zhy t cls nm), .bool (zhO t cls nm)]) ∧ Below w.heap.size w w' := by
 have hmf : ∀ (fn : Fn) (first cap : Array Value) (w : World), (Instr.makeFunc fn first cap).run Try.prog w = .ok (.func fn first cap) w := fun _ _ _ _ => rfl
 have hu := Try.underlying58
 have HF := zaa.mk (zeh A0 c0 t cls (w.alloc (.cells #[.string nm] 9)) (Kd.zat hr0 ((Below.refl _ _).alloc (Nat.le_refl _) _)) hlt hfl)
 unfold zhy zhO
 obtain ⟨L, hL⟩ : ∃ L, L = zb5 t cls := ⟨_, rfl⟩
 rw [← hL] at HF hfl ⊢
 have HFL := zaa.mk hfl
 obtain ⟨b, hb⟩ : ∃ b, b = !decide (idxV nm L 0 < 0) := ⟨_, rfl⟩
 obtain ⟨q, hq⟩ : ∃ q, q = (if idxV nm L 0 < 0 then 0 else idxV nm L 0) := ⟨_, rfl⟩
 obtain ⟨z, hz⟩ : ∃ z, z = zfb nm L := ⟨_, rfl⟩
 rw [← hb, ← hz]
 have HBQ := zaa.mk hb
 have HQQ := zaa.mk hq
 have HYQ := zaa.mk hz
 clear hr0 hL hfl hb hq hz
 go_enter Try.func69, Try.ntmps69
 go_wp2_with fail
 refine HF.out.mono ?_
 rintro e w1 ⟨v, rfl, hR, hb⟩
 obtain ⟨A1, c1, rfl, hc1, hC1⟩ := Kd.zb4 hR
 have hp := (hb.block w.heap.size s9).trans (at_new w (.cells #[.string nm] 9 (0, 0)) rfl)
 have HFI := zaa.mk (findV A1 c1 L nm w.heap.size w1 hC1 HFL.out hp)
 have HB1 := zaa.mk (((Below.refl w.heap.size w).alloc (Nat.le_refl _) (.cells #[.string nm] 9 (0, 0))).trans (hb.mono s9))
 clear hR hC1 hp hb HF
 rw [← HBQ.out, ← HQQ.out, ← HYQ.out] at HFI
 go_wp2_with fail
 refine HFI.out.mono ?_
 rintro e w2 ⟨y, rfl, rfl, hb2⟩
 have HB2 := zaa.mk (HB1.out.trans (hb2.mono HB1.out.size))
 clear hb2 HFI
 go_wp2_with fail
 go_ret2
 exact ⟨rfl, HB2.out.alloc HB2.out.size _⟩
structure Small (t : List (S64)) : Prop where
 all : t.length < 4398046511104
 ms : ∀ p, p < t.length → (clsAt t p).f3.length < 4398046511104
 ps : ∀ p, p < t.length → ∀ m ∈ (clsAt t p).f3, m.f1.length < 4398046511104
def methodAt (t : List (S64)) (nm : ByteArray) (l : List Nat) : Option Nat := l.find? fun p => !decide (idxS nm (clsAt t p).f3 0 < 0)
def methM (t : List (S64)) (nm : ByteArray) : Option Nat → S61
 | some p => zec nm (clsAt t p).f3
 | none => z61
def methC (t : List (S64)) : Option Nat → ByteArray
 | some p => (clsAt t p).f0
 | none => ⟨#[]⟩
theorem zi5 (nm : ByteArray) (l : List (S61)) (h : ∀ m ∈ l, m.f1.length < 4398046511104) : (zec nm l).f1.length < 4398046511104 := by
 unfold zec za6
 by_cases hn : idxS nm l 0 < 0
 ·
  rw [if_pos hn]; simp [z61]
 ·
  rw [if_neg hn, List.getD_eq_getElem?_getD]
  cases hg : l[(idxS nm l 0).toNat]? with
  | none => simp [z61]
  | some m => exact h m (List.mem_of_getElem? hg)
theorem zf8 {t : List (S64)} {nm : ByteArray} {l : List Nat} (h : methodAt t nm l = none) (p : Nat) : methodAt t nm (l ++ [p]) = if idxS nm (clsAt t p).f3 0 < 0 then none else some p := by
 unfold methodAt at h ⊢
 rw [List.find?_append, h]
 by_cases hp : idxS nm (clsAt t p).f3 0 < 0 <;> simp [List.find?, hp]
theorem zgE {t : List (S64)} {nm : ByteArray} {l l' : List Nat} {p : Nat} (h : methodAt t nm l = some p) (hp : l <+: l') : methodAt t nm l' = some p := by
 obtain ⟨r, rfl⟩ := hp
 unfold methodAt at h ⊢
 rw [List.find?_append, h]; rfl
structure MI (t : List (S64)) (nm : ByteArray) (w : World) (pre : List Nat) (O : Nat → Prop) (W : World) : Prop where
 p5 : Mine w.heap.size (.cells #[.string nm] 9 (0, 0)) O W
 p6 : Mine (w.heap.size + 1) (.cells #[.string ⟨#[]⟩, .slice none 0 0, .string ⟨#[]⟩] 61 (0, 0)) O W
 p7 : Mine (w.heap.size + 2) (.cells #[.string ⟨#[]⟩] 9 (0, 0)) O W
 p8 : Mine (w.heap.size + 3) (.cells #[.bool false] 4 (0, 0)) O W
 bl : Below w.heap.size w W
 lo : ∀ k, O k → w.heap.size ≤ k
 no : methodAt t nm pre = none
theorem MI.stable (t : List (S64)) (nm : ByteArray) (w : World) : Stable (MI t nm w) := fun s O O' W W' h hm h1 h2 => by
 have hst : ∀ {b : Nat} {o : Obj}, Mine b o O W → Mine b o O' W' := fun hb => Mine.stable (β := Unit) (fun _ => _) (fun _ => _) () O O' W W' hb hm h1 h2
 exact ⟨hst h.p5, hst h.p6, hst h.p7, hst h.p8, h.bl.trans (hm.below h.bl.size h.lo), fun k hk => (h2 k hk).elim (h.lo k) (fun x => by have := h.bl.size; omega), h.no⟩
structure MX (t : List (S64)) (cls nm : ByteArray) (w : World) (pre : List Nat) (O : Nat → Prop) (W : World) : Prop where
 is : ∃ p v, methodAt t nm (lineL t cls) = some p ∧ Mine (w.heap.size + 1) (.cells #[.string (methM t nm (some p)).f0, v, .string (methM t nm (some p)).f2] 61 (0, 0)) O W ∧
  Mine (w.heap.size + 2) (.cells #[.string (methC t (some p))] 9 (0, 0)) O W ∧ Kd.R k58 58 W w.heap.size (fun k => ¬ O k) v (methM t nm (some p)).f1
 p8 : Mine (w.heap.size + 3) (.cells #[.bool true] 4 (0, 0)) O W
 bl : Below w.heap.size w W
 lo : ∀ k, O k → w.heap.size ≤ k
theorem zj0 {α : Type} {d : Kd α} {e n₀ : Nat} {O O' : Nat → Prop} {W W' : World} {v : Value} {xs : List α} (hr : d.R e W n₀ (fun k => ¬ O k) v xs) (hm : Mv O W W') (h2 : ∀ k, O' k → O k ∨ W.heap.size ≤ k) : d.R e W' n₀ (fun k => ¬ O' k) v xs := by
 refine Kd.za0 (Kd.zbB (Kd.zcv (ok := fun k => ¬ O k ∧ k < W.heap.size) (Kd.za0 (Kd.zbB hr) (fun k hk => ⟨hk.1, hk.2.2.1⟩)) (fun k hk hl => hm.block k hl hk.1))) (fun k hk => ?_)
 exact fun e => (h2 k e).elim hk.1.1 (fun x => by have := hk.1.2; omega)
theorem MX.stable (t : List (S64)) (cls nm : ByteArray) (w : World) : Stable (MX t cls nm w) := fun s O O' W W' h hm h1 h2 => by
 have hst : ∀ {b : Nat} {o : Obj}, Mine b o O W → Mine b o O' W' := fun hb => Mine.stable (β := Unit) (fun _ => _) (fun _ => _) () O O' W W' hb hm h1 h2
 obtain ⟨p, v, i1, i2, i3, i4⟩ := h.is
 exact ⟨⟨p, v, i1, hst i2, hst i3, zj0 i4 hm h2⟩, hst h.p8, h.bl.trans (hm.below h.bl.size h.lo), fun k hk => (h2 k hk).elim (h.lo k) (fun x => by have := h.bl.size; omega)⟩
theorem MI.pure {t : List (S64)} {nm : ByteArray} {w : World} {pre pre' : List Nat} {O : Nat → Prop} {W W' : World} (h : MI t nm w pre O W) (hb : Below W.heap.size W W') (hn : methodAt t nm pre' = none) : MI t nm w pre' O W' := by
 have hst : ∀ {b : Nat} {o : Obj}, Mine b o O W → Mine b o O W' := fun hm => ⟨(hb.block _ (zai hm.1)).trans hm.1, hm.2⟩
 exact ⟨hst h.p5, hst h.p6, hst h.p7, hst h.p8, h.bl.trans (hb.mono h.bl.size), h.lo, hn⟩
structure Res (B : Nat) (o : Obj) (W W' : World) : Prop where
 mv : Mv (fun k => k = B) W W'
 val : W'.heap[B]? = W.heap[B]? ∨ W'.heap[B]? = some o
theorem Res.refl (B : Nat) (o : Obj) (W : World) : Res B o W W := ⟨Mv.refl _ _, .inl rfl⟩
theorem Res.trans {B : Nat} {o : Obj} {A C D : World} (h : Res B o A C) (k : Res B o C D) : Res B o A D := ⟨h.mv.trans k.mv, by
 rcases k.val with e | e
 ·
  rcases h.val with e' | e'
  ·
   exact .inl (e.trans e')
  ·
   exact .inr (e.trans e')
 ·
  exact .inr e⟩
theorem Res.keep {B : Nat} {o : Obj} {W W' : World} (h : Res B o W W') (hw : W.heap[B]? = some o) : W'.heap[B]? = some o := by
 rcases h.val with e | e
 ·
  exact e.trans hw
 ·
  exact e
theorem zet {P : Program} {ty : TypeId} {w : World} {g : Nat} {t : TypeId} {v : Value} (ha : (isAgg ty).run P w = .ok false w) (hg : w.heap[g]? = some (.cells #[v] t (0, 0))) : (loadVar ty ⟨g, 0, none⟩).run P w = .ok v w := by
 have hc := zad hg 0
 simp only [List.getElem?_toArray, List.getElem?_cons_zero] at hc
 simp [loadVar, go_sem, hc, ha]
theorem zfm {P : Program} {fn : Func} {p1 p2 p3 : Tmp} {ty1 ty2 ty3 : TypeId} (h : fn.results = #[.cell p1 ty1, .cell p2 ty2, .cell p3 ty3]) (tmps : Array Value) (w : World) (a1 a2 a3 : Addr) (v1 v2 v3 : Value)
  (h1 : tmps.getD p1 undef = .pointer (some a1)) (h2 : tmps.getD p2 undef = .pointer (some a2)) (h3 : tmps.getD p3 undef = .pointer (some a3))
  (l1 : (loadVar ty1 a1).run P w = .ok v1 w) (l2 : (loadVar ty2 a2).run P w = .ok v2 w) (l3 : (loadVar ty3 a3).run P w = .ok v3 w) : (results fn tmps).run P w = .ok (.tuple #[v1, v2, v3]) w := by
 have h1' : tmps[p1]?.getD undef = .pointer (some a1) := by simpa using h1
 have h2' : tmps[p2]?.getD undef = .pointer (some a2) := by simpa using h2
 have h3' : tmps[p3]?.getD undef = .pointer (some a3) := by simpa using h3
 simp [results, h, h1', h2', h3', asAddr, l1, l2, l3]
theorem zgl (A0 : Option Addr) (c0 : Nat) (t : List (S64)) (cls nm : ByteArray) (w : World) (hr0 : Kd.C k64 w A0 t.length t) (hs : Small t) :
  Calls Try.prog 70 #[.slice A0 t.length c0, .string cls, .string nm] w fun e w' => ∃ v, e = .returned (.tuple #[.agg #[.string (methM t nm (methodAt t nm (lineL t cls))).f0, v, .string (methM t nm (methodAt t nm (lineL t cls))).f2], .string (methC t (methodAt t nm (lineL t cls))), .bool (methodAt t nm (lineL t cls)).isSome]) ∧
   Kd.R k58 58 w' w.heap.size (fun _ => True) v (methM t nm (methodAt t nm (lineL t cls))).f1 ∧ Below w.heap.size w w' := by
 have hu61 := Try.underlying61
 refine (callsIn_wide (n := 5)).1 ?_
 refine callsIn_of_wp_marks Try.func70 rfl trivial ?_ rfl
 simp only [Try.ntmps70, List.size_toArray, List.length_cons, List.length_nil, Nat.reduceAdd, Nat.reduceSub, Array.replicate_succ, Array.replicate_zero, List.push_toArray, List.append_toArray, List.nil_append, List.cons_append]
 gi_wp2_with (refine ⟨trivial, ?_⟩; gi_at_call 74; refine ((callsIn_wide (n := 4)).2 (zfj _ _ _ _ _)).mono ?_; rintro e w' ⟨rfl, rfl⟩)
 obtain ⟨W1, hW1⟩ : ∃ W1, W1 = ((((((w.alloc (.cells #[.string nm] 9)).alloc (.cells #[.string ⟨#[]⟩, .slice none 0 0, .string ⟨#[]⟩] 61)).alloc (.cells #[.string ⟨#[]⟩] 9)).alloc (.cells #[.bool false] 4)).alloc (.cells #[.slice A0 t.length c0] 22)).alloc (.cells #[.string cls] 9)) := ⟨_, rfl⟩
 have hsz : W1.heap.size = w.heap.size + 6 := by rw [hW1]; simp
 have b5 : W1.heap[w.heap.size]? = some (.cells #[.string nm] 9 (0, 0)) := by rw [hW1]; exact zal (zal (zal (zal (zal (at_new _ _ rfl) _) _) _) _) _
 have b6 : W1.heap[w.heap.size + 1]? = some (.cells #[.string ⟨#[]⟩, .slice none 0 0, .string ⟨#[]⟩] 61 (0, 0)) := by rw [hW1]; exact zal (zal (zal (zal (at_new _ _ s9) _) _) _) _
 have b7 : W1.heap[w.heap.size + 2]? = some (.cells #[.string ⟨#[]⟩] 9 (0, 0)) := by rw [hW1]; exact zal (zal (zal (at_new _ _ s9) _) _) _
 have b8 : W1.heap[w.heap.size + 3]? = some (.cells #[.bool false] 4 (0, 0)) := by rw [hW1]; exact zal (zal (at_new _ _ s9) _) _
 have bt : W1.heap[w.heap.size + 4]? = some (.cells #[.slice A0 t.length c0] 22 (0, 0)) := by rw [hW1]; exact zal (at_new _ _ s9) _
 have bn : W1.heap[w.heap.size + 5]? = some (.cells #[.string cls] 9 (0, 0)) := by rw [hW1]; exact at_new _ _ s9
 have hbl : Below w.heap.size w W1 := by
  rw [hW1]; exact (((((((Below.refl _ _).alloc (Nat.le_refl _) _).alloc s9 _).alloc (by simp; omega) _).alloc (by simp; omega) _).alloc (by simp; omega) _).alloc (by simp; omega) _)
 rw [← hW1]
 have hCb : ∀ w', Below w.heap.size w w' → Kd.C k64 w' A0 t.length t := fun w' h => Kd.zat hr0 h
 refine zfS (n := 5) rfl o9 83 #[.pointer (some ⟨w.heap.size + 4, 0, none⟩), .pointer (some ⟨w.heap.size + 5, 0, none⟩)] rfl trivial (zc2 Try.func83 k9 rfl)
  (fun p : Nat => #[encP A0 p]) (fun _ => rfl) (fun k => k = w.heap.size + 4 ∨ k = w.heap.size + 5) (fun k => k < w.heap.size) (fun k hk => by rcases hk with rfl | rfl <;> omega) (fun k h => by omega)
  (ze9 4 o9 A0 c0 t cls _ _ w.heap.size W1 (hCb _ hbl) hbl.size (fun w' h => hCb _ (hbl.trans h)) hs.all o9 o9 o9 bt bn)
  (MI t nm w) (fun c pre O W => c = .ret ∧ MX t cls nm w pre O W) (MI.stable t nm w) (fun c => (Stable.pure (fun _ => c = .ret)).and (MX.stable t cls nm w)) ?_
  (fun x => { tmps := #[.slice A0 t.length c0, .string cls, .string nm, undef, undef, .pointer (some ⟨w.heap.size, 0, none⟩), .pointer (some ⟨w.heap.size + 1, 0, none⟩), .pointer (some ⟨w.heap.size + 2, 0, none⟩), .pointer (some ⟨w.heap.size + 3, 0, none⟩), encP A0 x, undef, undef, undef, .slice A0 t.length c0, .string cls, .func (.func 83) #[] #[.pointer (some ⟨w.heap.size + 4, 0, none⟩), .pointer (some ⟨w.heap.size + 5, 0, none⟩)],
   encP A0 x, undef, undef, undef, undef, undef, undef, undef, undef, undef, undef, undef, undef, undef, undef, undef, undef, undef, undef, undef, undef, undef], defers := [] }) ?assign ?body ?done ?stop
 ·
  intro O hO W hW
  have hno : ∀ k, k < w.heap.size + 4 → ¬ O k := fun k hk e => by rcases hO k e with (h | h) | h <;> omega
  have go : ∀ {b : Nat} {o : Obj}, W1.heap[b]? = some o → b < w.heap.size + 4 → Mine b o O W := fun h hlt => ⟨hW.at h (fun h => h), hno _ hlt⟩
  exact ⟨go b5 o9, go b6 o9, go b7 o9, go b8 o9, hbl.trans (hW.below hbl.size (fun _ h => h.elim)), fun k hk => by rcases hO k hk with (h | h) | h <;> omega, rfl⟩
 case assign =>
  intro l x W K hK
  gi_wp2
  exact hK
 case body =>
  intro l pre x O W hI hpre hOl hOlp hrec hOO hsz2
  have hxl : x < t.length := zcq t _ _ _ x (hpre.subset s9)
  obtain ⟨ad, A2, c2, A3, c3, hA0, x0, x1, x2, x3, l2, C2, l3, C3⟩ := zdD (hCb _ hI.bl) (x : Int) o9 o9
  subst hA0
  simp only [Int.toNat_natCast] at x0 x1 x2 x3
  have HFI := zaa.mk (findS A3 c3 (clsAt t x).f3 nm w.heap.size W C3 (hs.ms x hxl) hI.p5.1)
  have hsn := zf8 hI.no x
  have HI := zaa.mk hI
  have HPRE := zaa.mk hpre
  have HOL := zaa.mk hOl
  have hmf : ∀ (fn : Fn) (first cap : Array Value) (w : World), (Instr.makeFunc fn first cap).run Try.prog w = .ok (.func fn first cap) w := fun _ _ _ _ => rfl
  simp only [encP, Option.map_some]
  by_cases hneg : idxS nm (clsAt t x).f3 0 < 0
  ·
   rw [if_pos hneg] at hsn
   have HSN := zaa.mk hsn
   have hd : (!decide (idxS nm (clsAt t x).f3 0 < 0)) = false := by simpa using hneg
   rw [if_pos hneg, hd] at HFI
   clear hsn hneg hd C2 C3 l2 l3 x0 x1 x2 hI hpre hOl hOlp hrec hOO hsz2
   gi_wp2
   refine ⟨trivial, (CallsIn.inRound l (callsIn_wide.2 HFI.out)).mono ?_⟩
   rintro e w2 ⟨y, hy, A1, c1, rfl, l1, C1, hb2⟩
   have HB2 := zaa.mk hb2
   clear hb2 hy l1 C1 HFI
   gi_wp2
   have hb3 := HB2.out.alloc HB2.out.size (.cells #[.string y.f0, .slice A1 y.f1.length c1, .string y.f2] 61)
   exact ⟨(Mv.zb2 hb3 _), HI.out.pure hb3 HSN.out⟩
  ·
   rw [if_neg hneg] at hsn
   have HSN := zaa.mk hsn
   have hd : (!decide (idxS nm (clsAt t x).f3 0 < 0)) = true := by simpa using hneg
   obtain ⟨q, hq⟩ : ∃ q, q = idxS nm (clsAt t x).f3 0 := ⟨_, rfl⟩
   rw [if_neg hneg, hd, ← hq] at HFI
   clear hsn hneg hd hq C2 C3 l2 l3 x1 x2 hI hpre hOl hOlp hrec hOO hsz2
   gi_wp2
   refine ⟨trivial, (CallsIn.inRound l (callsIn_wide.2 HFI.out)).mono ?_⟩
   rintro e w2 ⟨y, hy, A1, c1, rfl, l1, C1, hb2⟩
   have HB2 := zaa.mk hb2
   have HC1 := zaa.mk C1
   have HL1 := zaa.mk l1
   have HY := zaa.mk hy
   clear hb2 hy l1 C1 HFI
   obtain ⟨w3, hw3⟩ : ∃ w3, w3 = w2.alloc (.cells #[.string y.f0, .slice A1 y.f1.length c1, .string y.f2] 61) := ⟨_, rfl⟩
   have hb3 : Below W.heap.size W w3 := by rw [hw3]; exact HB2.out.alloc HB2.out.size _
   have hbox : w3.heap[w2.heap.size]? = some (.cells #[.string y.f0, .slice A1 y.f1.length c1, .string y.f2] 61 (0, 0)) := by rw [hw3]; exact at_new _ _ rfl
   have hle : y.f1.length < 4398046511104 := by
    rw [HY.out]
    exact zi5 nm _ (hs.ps x (zcq t _ _ _ x (HPRE.out.subset s9)))
   have HCL := zaa.mk (zef A1 c1 y.f1 w3 (by rw [hw3]; exact Kd.zbr HC1.out _) hle)
   have HB3 := zaa.mk hb3
   have HBOX := zaa.mk hbox
   gi_wp2
   rw [← hw3]
   refine ⟨trivial, (CallsIn.inRound l (callsIn_wide.2 HCL.out)).mono ?_⟩
   rintro e w4 ⟨v, rfl, hR4, hb4⟩
   have hbox4 := (hb4.block _ (zai hbox)).trans hbox
   obtain ⟨Av, cv, hv⟩ := Kd.zbj hR4
   subst hv
   have g0 := zad hbox4 0
   have g1 := zad hbox4 1
   have g2 := zad hbox4 2
   have f0 := free_at hbox4 0
   have f1 := free_at hbox4 1
   have f2 := free_at hbox4 2
   simp only [List.getElem?_toArray, List.getElem?_cons_zero, List.getElem?_cons_succ] at g0 g1 g2
   have HR4 := zaa.mk hR4
   have HB4 := zaa.mk (HB3.out.trans (hb4.mono HB3.out.size))
   have HBOX4 := zaa.mk hbox4
   have HS3 := zaa.mk (show w2.heap.size < w3.heap.size from zai hbox)
   clear hR4 hb4 hbox hbox4 hb3 HCL HBOX HC1 hle hw3
   gi_wp2
   obtain ⟨WA, hWA⟩ : ∃ WA, WA = w4.setCell ⟨w2.heap.size, 1, none⟩ (.slice Av y.f1.length cv) := ⟨_, rfl⟩
   have hBA : Below W.heap.size W WA := by rw [hWA]; exact HB4.out.trans (((Mv.refl (fun k => W.heap.size ≤ k) w4).setCell (p := ⟨w2.heap.size, 1, none⟩) (.inl HB2.out.size) _).below HB4.out.size (fun _ h => h))
   have bx : WA.heap[w2.heap.size]? = some (.cells #[.string y.f0, .slice Av y.f1.length cv, .string y.f2] 61 (0, 0)) := by rw [hWA]; exact zaf HBOX4.out 1 _ rfl
   have hRA : Kd.R k58 58 WA w3.heap.size (fun _ => True) (.slice Av y.f1.length cv) y.f1 := by rw [hWA]; exact Kd.R_set HR4.out HBOX4.out d9 1 _
   have hlt6 := zai HI.out.p6.1
   have hlt7 := zai HI.out.p7.1
   have hlt8 := zai HI.out.p8.1
   have hw2 := HB2.out.size
   have p6 := (hBA.block _ hlt6).trans HI.out.p6.1
   have p7 := (hBA.block _ hlt7).trans HI.out.p7.1
   have p8 := (hBA.block _ hlt8).trans HI.out.p8.1
   have hBB := HI.out.bl.trans (hBA.mono HI.out.bl.size)
   have hCA : ∀ w', Mv (fun k => k = w.heap.size + 1) WA w' → Kd.C k64 w' (some ad) t.length t := fun w' h => hCb _ (hBB.trans (h.below hBB.size (fun k e => by omega)))
   have HCA := zaa.mk hCA
   have HRA := zaa.mk hRA
   have HBA := zaa.mk hBA
   have BX := zaa.mk bx
   have P6 := zaa.mk p6
   have P7 := zaa.mk p7
   have P8 := zaa.mk p8
   have hxl := zcq t _ _ _ x (HPRE.out.subset s9)
   have HXL := zaa.mk hxl
   rw [← hWA]
   clear hBA bx hRA p6 p7 p8 hCA hBB hxl hWA g0 g1 g2 f0 f1 f2 x3 x0
   refine zbU (N := 38) 6 (Res (w.heap.size + 1) (.cells #[.string y.f0, .slice Av y.f1.length cv, .string y.f2] 61 (0, 0))) k9 k9 k9 (fun _ _ h => h) rfl (Res.refl _ _) (Res.trans) ?_
   rw [show List.range 6 = [0, 1, 2, 3, 4, 5] from rfl]
   refine zaF (.agg #[.string y.f0, .slice Av y.f1.length cv, .string y.f2]) (Res.refl _ _) rfl (fun _ _ _ _ => zae rfl) ?_ ?_
   ·
    intro a w' hr hs
    have h5 := hs.out 10 k9
    have hb := hr.mv.at BX.out o9
    have c0 := zad hb 0
    have c1 := zad hb 1
    have c2 := zad hb 2
    simp only [List.getElem?_toArray, List.getElem?_cons_zero, List.getElem?_cons_succ] at c0 c1 c2
    go_simp
   refine zaF (.pointer (some (ad.add (x * 4)))) (Res.refl _ _) rfl (fun _ _ _ _ => zae rfl) ?_ ?_
   ·
    intro a w' hr hs
    have h5 := hs.out 9 k9
    go_simp
   refine zaF (.pointer (some (ad.add (x * 4)))) (Res.refl _ _) rfl (fun _ _ _ _ => zae rfl) ?_ ?_
   ·
    intro a w' hr hs
    have h5 := hs.get 0 rfl k9 rfl
    simp only at h5
    go_simp
   refine zaF (.pointer (some (ad.add (x * 4)))) (Res.refl _ _) rfl (fun _ _ _ _ => zae rfl) ?_ ?_
   ·
    intro a w' hr hs
    have h5 := hs.get 0 rfl k9 rfl
    simp only at h5
    go_simp
   refine zaF (.string (clsAt t x).f0) (Res.refl _ _) rfl (fun _ _ _ _ => zae rfl) ?_ ?_
   ·
    intro a w' hr hs
    have h5 := hs.get 0 rfl k9 rfl
    simp only at h5
    obtain ⟨ad', A2', c2', A3', c3', e', x0, _⟩ := zdD (HCA.out w' ((Mv.refl _ WA).drew.trans hr.mv)) (x : Int) o9 (by have := HXL.out; omega)
    cases e'
    simp only [Int.toNat_natCast] at x0
    unfold clsAt
    go_simp
   refine zdu (fun W => W.heap[w.heap.size + 1]? = some (.cells #[.string y.f0, .slice Av y.f1.length cv, .string y.f2] 61 (0, 0))) (fun _ _ h => h.keep) rfl (fun _ _ _ _ => zae rfl) ?_ ?_
   ·
    intro a w' hr hs
    have h5 := hs.get 4 rfl k9 rfl
    have h6 := hs.out 6 k9
    simp only at h5
    obtain ⟨k0, k1, k2, hk⟩ : ∃ k0 k1 k2, w'.heap[w.heap.size + 1]? = some (.cells #[k0, k1, k2] 61 (0, 0)) := by
     rcases hr.val with e | e
     ·
      exact ⟨_, _, _, e.trans P6.out⟩
     ·
      exact ⟨_, _, _, e⟩
    have fin := zaf (zaf (zaf hk 0 (.string y.f0) rfl) 1 (.slice Av y.f1.length cv) rfl) 2 (.string y.f2) rfl
    have f0 := free_at hk 0
    have f1 := free_at hk 1
    have f2 := free_at hk 2
    have g0 := zad hk 0
    have g1 := zad hk 1
    have g2 := zad hk 2
    simp only [List.getElem?_toArray, List.getElem?_cons_zero, List.getElem?_cons_succ] at g0 g1 g2
    refine ⟨((w'.setCell ⟨w.heap.size + 1, 0, none⟩ (.string y.f0)).setCell ⟨w.heap.size + 1, 1, none⟩ (.slice Av y.f1.length cv)).setCell ⟨w.heap.size + 1, 2, none⟩ (.string y.f2), ?_, ⟨(((Mv.refl (fun k => k = w.heap.size + 1) w').setCell (p := ⟨w.heap.size + 1, 0, none⟩) (.inl rfl) _).setCell (p := ⟨w.heap.size + 1, 1, none⟩) (.inl rfl) _).setCell (p := ⟨w.heap.size + 1, 2, none⟩) (.inl rfl) _, .inr fin⟩, fin⟩
    clear fin hk
    go_simp
   intro vs w5 hr hE
   rw [show List.range 6 = [0, 1, 2, 3, 4, 5] from rfl]
   simp only [List.mem_cons, List.not_mem_nil, or_false, forall_eq_or_imp, forall_eq] at hE
   obtain ⟨q6, g4, g3, g2, g1, g0⟩ := hE
   simp only [putL, zaU, List.getElem?_toArray, List.getElem?_cons_succ, List.getElem?_cons_zero, Option.bind_some, Act.put, List.setIfInBounds_toArray, List.set_cons_succ, List.set_cons_zero, g4, g3, g2, g1, g0]
   have p7 := hr.mv.at P7.out o9
   have p8 := hr.mv.at P8.out o9
   have c7 := zad p7 0
   have f7 := free_at p7 0
   simp only [List.getElem?_toArray, List.getElem?_cons_zero] at c7
   have p8' := at_set p8 (p := ⟨w.heap.size + 2, 0, none⟩) s9 (.string (clsAt t x).f0)
   have c8 := zad p8' 0
   have f8 := free_at p8' 0
   simp only [List.getElem?_toArray, List.getElem?_cons_zero] at c8
   refine zcQ (i := 6) (r := [7]) (w' := w5.setCell ⟨w.heap.size + 2, 0, none⟩ (.string (clsAt t x).f0)) rfl (zae rfl) q9 ?_
   refine zcQ (i := 7) (r := []) (w' := (w5.setCell ⟨w.heap.size + 2, 0, none⟩ (.string (clsAt t x).f0)).setCell ⟨w.heap.size + 3, 0, none⟩ (.bool true)) rfl (zae rfl) q9 (zaX ?_)
   have q6' := at_set (at_set q6 (p := ⟨w.heap.size + 2, 0, none⟩) s9 (.string (clsAt t x).f0)) (p := ⟨w.heap.size + 3, 0, none⟩) s9 (.bool true)
   have q7' := at_set (zaf p7 0 (.string (clsAt t x).f0) rfl) (p := ⟨w.heap.size + 3, 0, none⟩) s9 (.bool true)
   have q8' := zaf p8' 0 (.bool true) rfl
   have hmvA : Mv (fun k => k = w.heap.size + 1 ∨ k = w.heap.size + 2 ∨ k = w.heap.size + 3) WA ((w5.setCell ⟨w.heap.size + 2, 0, none⟩ (.string (clsAt t x).f0)).setCell ⟨w.heap.size + 3, 0, none⟩ (.bool true)) :=
    ((((Mv.refl _ WA).drew.trans hr.mv).mono (fun _ _ h => .inl h)).setCell (p := ⟨w.heap.size + 2, 0, none⟩) (.inl (.inr (.inl rfl))) _).setCell (p := ⟨w.heap.size + 3, 0, none⟩) (.inl (.inr (.inr rfl))) _
   obtain ⟨WF, hWF⟩ : ∃ WF, WF = (w5.setCell ⟨w.heap.size + 2, 0, none⟩ (.string (clsAt t x).f0)).setCell ⟨w.heap.size + 3, 0, none⟩ (.bool true) := ⟨_, rfl⟩
   rw [← hWF] at q6' q7' q8' hmvA ⊢
   have Q6 := zaa.mk q6'
   have Q7 := zaa.mk q7'
   have Q8 := zaa.mk q8'
   have HMA := zaa.mk hmvA
   clear q6' q7' q8' hmvA hWF p7 p8 p8' c7 c8 f7 f8 q6 g0 g1 g2 g3 g4
   gi_wp2
   have hno6 := HI.out.p6.2
   have hno7 := HI.out.p7.2
   have hno8 := HI.out.p8.2
   have hmall : Mv (fun k => ¬ (O k ∨ k < w.heap.size)) W WF := (Mv.zb2 HBA.out _).trans (HMA.out.mono (fun k _ h => by
    rintro (h' | h')
    ·
     rcases h with rfl | rfl | rfl
     ·
      exact hno6 h'
     ·
      exact hno7 h'
     ·
      exact hno8 h'
    ·
     omega))
   refine ⟨hmall, rfl, ⟨x, .slice Av y.f1.length cv, zgE HSN.out HPRE.out, ⟨?_, hno6⟩, ⟨Q7.out, hno7⟩, ?_⟩, ⟨Q8.out, hno8⟩, HI.out.bl.trans (hmall.below HI.out.bl.size (fun k h => Nat.not_lt.1 (fun h' => h (.inr h')))), HI.out.lo⟩
   ·
    have e : methM t nm (some x) = y := HY.out.symm
    rw [e]; exact Q6.out
   ·
    have e : methM t nm (some x) = y := HY.out.symm
    have hs3 := HS3.out
    rw [e]
    have h1 := Kd.zcv (Kd.za0 (Kd.zbB HRA.out) (ok' := fun k => w3.heap.size ≤ k) (fun k h => h.2.1)) (w1 := WF) (fun k hk hl => HMA.out.block k hl (by rintro (rfl | rfl | rfl) <;> omega))
    exact Kd.zbi (Kd.za0 h1 (fun k hk h => by have := HOL.out k h; omega)) o9
 case done =>
  intro D xs O W hD hOD hOl hS hI hK
  subst hS
  have HI := zaa.mk hI
  have c6 := zad hI.p6.1 0
  have c61 := zad hI.p6.1 1
  have c62 := zad hI.p6.1 2
  have c7 := zad hI.p7.1 0
  have c8 := zad hI.p8.1 0
  have f6 := free_at hI.p6.1 0
  have f61 := free_at hI.p6.1 1
  have f62 := free_at hI.p6.1 2
  have f7 := free_at hI.p7.1 0
  have f8 := free_at hI.p8.1 0
  simp only [List.getElem?_toArray, List.getElem?_cons_zero, List.getElem?_cons_succ] at c6 c61 c62 c7 c8
  clear hI
  gi_wp2
  have hne : ∀ k, ¬ O k → k ≠ D := fun k h e => h (e ▸ hOD)
  have hD6 := hne _ HI.out.p6.2
  have hD7 := hne _ HI.out.p7.2
  have hD8 := hne _ HI.out.p8.2
  have z6 : (((W.setCell ⟨w.heap.size + 1, 0, none⟩ (.string ⟨#[]⟩)).setCell ⟨w.heap.size + 1, 1, none⟩ (.slice none 0 0)).setCell ⟨w.heap.size + 1, 2, none⟩ (.string ⟨#[]⟩)).heap[w.heap.size + 1]? = some (.cells #[.string ⟨#[]⟩, .slice none 0 0, .string ⟨#[]⟩] 61 (0, 0)) :=
   zaf (zaf (zaf HI.out.p6.1 0 _ rfl) 1 _ rfl) 2 _ rfl
  have hK5 := at_set (at_set (at_set (at_set (at_set hK (p := ⟨w.heap.size + 1, 0, none⟩) (Ne.symm hD6) (.string ⟨#[]⟩)) (p := ⟨w.heap.size + 1, 1, none⟩) (Ne.symm hD6) (.slice none 0 0)) (p := ⟨w.heap.size + 1, 2, none⟩) (Ne.symm hD6) (.string ⟨#[]⟩)) (p := ⟨w.heap.size + 2, 0, none⟩) (Ne.symm hD7) (.string ⟨#[]⟩)) (p := ⟨w.heap.size + 3, 0, none⟩) (Ne.symm hD8) (.bool false)
  have z7 := zaf (w := ((W.setCell ⟨w.heap.size + 1, 0, none⟩ (.string ⟨#[]⟩)).setCell ⟨w.heap.size + 1, 1, none⟩ (.slice none 0 0)).setCell ⟨w.heap.size + 1, 2, none⟩ (.string ⟨#[]⟩)) (g := w.heap.size + 2) (cs := #[.string ⟨#[]⟩]) (t := 9) (at_set (at_set (at_set HI.out.p7.1 (p := ⟨w.heap.size + 1, 0, none⟩) s9 _) (p := ⟨w.heap.size + 1, 1, none⟩) s9 _) (p := ⟨w.heap.size + 1, 2, none⟩) s9 _) 0 (.string ⟨#[]⟩) rfl
  have z8 := zaf (at_set (at_set (at_set (at_set HI.out.p8.1 (p := ⟨w.heap.size + 1, 0, none⟩) s9 (.string ⟨#[]⟩)) (p := ⟨w.heap.size + 1, 1, none⟩) s9 (.slice none 0 0)) (p := ⟨w.heap.size + 1, 2, none⟩) s9 (.string ⟨#[]⟩)) (p := ⟨w.heap.size + 2, 0, none⟩) s9 (.string ⟨#[]⟩)) 0 (.bool false) rfl
  refine ⟨by simp, .inl ⟨_, _, rfl, run_takeDeferred hK5, ?_⟩⟩
  rw [HI.out.no]
  refine ⟨_, zfm rfl _ _ ⟨w.heap.size + 1, 0, none⟩ ⟨w.heap.size + 2, 0, none⟩ ⟨w.heap.size + 3, 0, none⟩ (.agg #[.string ⟨#[]⟩, .slice none 0 0, .string ⟨#[]⟩]) (.string ⟨#[]⟩) (.bool false) rfl rfl rfl
   (run_loadVar_row _ _ _ _ _ _ _ (zcP (at_set (at_set z6 s9 _) s9 _) hD6 _) hu61 rfl k9) (zet (by simp [isAgg, run_underlying Try.underlying9]) (zcP (at_set z7 s9 _) hD7 _)) (zet (by simp [isAgg, run_underlying Try.underlying4]) (zcP z8 hD8 _)), ?_⟩
  refine ⟨.slice none 0 0, rfl, Kd.R_nil _ _ _ _ _, ?_⟩
  exact HI.out.bl.trans (((((((Mv.refl (fun k => w.heap.size ≤ k) W).setCell (p := ⟨w.heap.size + 1, 0, none⟩) (.inl s9) _).setCell (p := ⟨w.heap.size + 1, 1, none⟩) (.inl s9) _).setCell (p := ⟨w.heap.size + 1, 2, none⟩) (.inl s9) _).setCell (p := ⟨w.heap.size + 2, 0, none⟩) (.inl s9) _).setCell (p := ⟨w.heap.size + 3, 0, none⟩) (.inl s9) _).putObj (r := D) (.inl (HI.out.lo D hOD)) (.deferred none) |>.below HI.out.bl.size (fun _ h => h))
 case stop =>
  rintro D c pre O W hD hOD hOl ⟨rfl, hX⟩ hK
  obtain ⟨⟨p, v, i1, i2, i3, i4⟩, i5, i6, i7⟩ := hX
  gi_wp2
  rw [i1]
  have hne : ∀ k, ¬ O k → k ≠ D := fun k h e => h (e ▸ hOD)
  refine ⟨by simp, .inl ⟨_, _, rfl, run_takeDeferred hK, ?_⟩⟩
  refine ⟨_, zfm rfl _ _ ⟨w.heap.size + 1, 0, none⟩ ⟨w.heap.size + 2, 0, none⟩ ⟨w.heap.size + 3, 0, none⟩ (.agg #[.string (methM t nm (some p)).f0, v, .string (methM t nm (some p)).f2]) (.string (methC t (some p))) (.bool true) rfl rfl rfl
   (run_loadVar_row _ _ _ _ _ _ _ (zcP i2.1 (hne _ i2.2) _) hu61 rfl k9) (zet (by simp [isAgg, run_underlying Try.underlying9]) (zcP i3.1 (hne _ i3.2) _)) (zet (by simp [isAgg, run_underlying Try.underlying4]) (zcP i5.1 (hne _ i5.2) _)), ?_⟩
  refine ⟨v, rfl, Kd.za0 (Kd.zcv i4 (fun k hk hl => World.putObj_heap_other (hne k hk))) (fun _ _ => trivial), ?_⟩
  exact i6.trans (((Mv.refl (fun k => w.heap.size ≤ k) W).putObj (r := D) (.inl (i7 D hOD)) (.deferred none)).below i6.size (fun _ h => h))
end Go.Proofs.YtinkbljjpafadaaTab
end

section
namespace Go.Proofs.YtinkbljjpafadaaTab
open Go.RowKit Go.Proofs.Ytinkbljjpafadaa.PAll Go.Proofs.YtinkbljjpafadaaW.PrintWords Go.Proofs.YtinkbljjpafadaaW.PrintLast Go.Proofs.YtinkbljjpafadaaRF Go.Proofs.YtinkbljjpafadaaRG Go.Proofs.YtinkbljjpafadaaMp
attribute [local go_sem] Oper.semAt_some
def skeq (a b : ByteArray) : Bool := a.toList == b.toList
theorem zgR : KeyLaw Try.prog 9 Value.string skeq where
 check := fun e a w => by kernel_rfl
 eq := fun a b w => run_equalIn_string (P := Try.prog) (w := w) 9999 9 a b Try.underlying9
 now := ⟨_, Try.underlying9, fun a b => by
  by_cases h : Instr.sameNow (.string) (.string a) (.string b) = none
  ·
   exact .inl h
  ·
   right; simp [Instr.sameNow, skeq, beq_toListBytes] at h ⊢⟩
 bits := fun a b h => by
  simp only [skeq, beq_iff_eq] at h
  obtain rfl := toList_inj h
  exact ⟨rfl, by simp [Instr.sameBits]; exact (Go.MapKept.bytes_beq a a).mpr rfl⟩
theorem zhp (a b : ByteArray) : skeq a b = true ↔ a = b := by
 simp only [skeq, beq_iff_eq]
 exact ⟨fun h => toList_inj h, fun h => by rw [h]⟩
def nidx (k : ByteArray) : List ByteArray → Nat → Option Nat
 | [], _ => none
 | x :: r, i => if k = x then some i else nidx k r (i + 1)
theorem zfN (k : ByteArray) : ∀ (l : List ByteArray) (n i : Nat), nidx k l n = some i → n ≤ i ∧ i < n + l.length ∧ l[i - n]? = some k
 | [], n, i, h => by simp [nidx] at h
 | x :: r, n, i, h => by
  unfold nidx at h
  by_cases hk : k = x
  ·
   rw [if_pos hk] at h
   obtain rfl : n = i := by simpa using h
   exact ⟨Nat.le_refl _, by simp, by simp [hk]⟩
  ·
   rw [if_neg hk] at h
   obtain ⟨h1, h2, h3⟩ := zfN k r (n + 1) i h
   refine ⟨by omega, by simp; omega, ?_⟩
   rw [show i - n = (i - (n + 1)) + 1 by omega]
   simpa using h3
def entsS : List ByteArray → Nat → List (ByteArray × Int × Nat)
 | [], _ => []
 | x :: r, i => (x, (i : Int), i) :: entsS r (i + 1)
theorem zdZ (k : ByteArray) : ∀ (l : List ByteArray) (i j : Nat), zbw skeq k (entsS l i) j = (nidx k l i).map fun q => (q - i + j, (q : Int))
 | [], i, j => rfl
 | x :: r, i, j => by
  unfold entsS zbw nidx
  by_cases h : k = x
  ·
   rw [if_pos ((zhp k x).2 h), if_pos h]; simp
  ·
   rw [if_neg (fun e => h ((zhp k x).1 e)), if_neg h, zdZ k r (i + 1) (j + 1)]
   cases hn : nidx k r (i + 1) with
   | none => rfl
   | some q =>
    have := (zfN k r (i + 1) q hn).1
    simp; omega
theorem zfi (k : ByteArray) : ∀ (l : List ByteArray) (i : Nat), entsS (l ++ [k]) i = entsS l i ++ [(k, ((i + l.length : Nat) : Int), i + l.length)]
 | [], i => by simp [entsS]
 | x :: r, i => by
  rw [List.cons_append]
  unfold entsS
  rw [zfi k r (i + 1)]
  simp [Nat.add_assoc, Nat.add_comm 1]
theorem zjD (k : ByteArray) (l : List ByteArray) (h : nidx k l 0 = none) : upd skeq k (l.length : Int) l.length (entsS l 0) = (entsS (l ++ [k]) 0, (l ++ [k]).length) := by
 unfold upd
 rw [zdZ, h, zfi]
 simp
def zdh (a : Int) : Value := .agg #[.int .i64 a]
theorem zbE (w : World) : (zeroValue 108).run Try.prog w = .ok (zdh 0) w := by kernel_rfl
def putS (out : List (S61)) (m : S61) : List (S61) := match nidx m.f0 (out.map (·.f0)) 0 with
 | some p => out.set p m
 | none => out ++ [m]
def zji (t : List (S64)) (l : List Nat) : List (S61) := (l.flatMap fun p => (clsAt t p).f3).foldl putS []
def zdL (t : List (S64)) (nm : ByteArray) : List (S61) := zji t (lineL t nm).reverse
theorem zfk (out : List (S61)) (m : S61) : (putS out m).map (·.f0) = match nidx m.f0 (out.map (·.f0)) 0 with | some _ => out.map (·.f0) | none => out.map (·.f0) ++ [m.f0] := by
 unfold putS
 cases h : nidx m.f0 (out.map (·.f0)) 0 with
 | none => simp
 | some p =>
  obtain ⟨_, _, h3⟩ := zfN _ _ 0 p h
  simp only [Nat.sub_zero] at h3
  refine List.ext_getElem? fun q => ?_
  simp only [List.getElem?_map, List.getElem?_set]
  by_cases hq : p = q
  ·
   subst hq
   simp only [List.getElem?_map] at h3
   by_cases hl : p < out.length
   ·
    simp [hl]
    simp [hl] at h3
    exact h3.symm
   ·
    simp [hl]
  ·
   simp [hq]
theorem zfY (out : List (S61)) (m : S61) : out.length ≤ (putS out m).length ∧ (putS out m).length ≤ out.length + 1 := by
 unfold putS
 cases h : nidx m.f0 (out.map (·.f0)) 0 with
 | none => simp
 | some p => simp
theorem zhE (ms : List (S61)) : ∀ (out : List (S61)), out.length ≤ (ms.foldl putS out).length ∧ (ms.foldl putS out).length ≤ out.length + ms.length := by
 induction ms with
 | nil => intro out; simp
 | cons m r ih =>
  intro out
  have h1 := ih (putS out m)
  have h2 := zfY out m
  simp only [List.foldl_cons, List.length_cons]
  omega
theorem zlc : (Try.prog.info? 61).map (fun i => (i.zero, i.size, i.bytes)) = some (some (.agg #[(.string ⟨#[]⟩), (.slice none 0 0), (.string ⟨#[]⟩)]), 3, 56) := by kernel_rfl
structure MS (w1 : World) (B : Nat) (out : List (S61)) (v : Value) (wr : World) : Prop where
 bM : wr.heap[B]? = some (zbR Value.string zdh (entsS (out.map (·.f0)) 0) (out.map (·.f0)).length)
 mv : Mv (fun k => k = B ∨ w1.heap.size ≤ k) w1 wr
 ho : Kd.S k61 61 wr w1.heap.size (fun _ => True) v out
theorem MS.bl {w w1 wr : World} {B : Nat} {out : List (S61)} {v : Value} (h : MS w1 B out v wr) (hb : Below w.heap.size w w1) (hB : w.heap.size ≤ B) : Below w.heap.size w wr :=
 hb.trans (h.mv.below hb.size (fun k e => by have := hb.size; omega))
theorem zg9 {w : World} {B : Nat} {L : List (ByteArray × Int × Nat)} {c : Nat} (hB : w.heap[B]? = some (zbR Value.string zdh L c)) {k : ByteArray} {i : Nat} {v : Int} (hf : zbw skeq k L 0 = some (i, v)) :
  (Instr.lookup 105 (.map (some B)) (.string k) true).run Try.prog w = .ok (.tuple #[.agg #[.int .i64 v], .bool true]) w := by
 have h := zcs (P := Try.prog) (T := 105) (venc := zdh) zgR Try.underlying105 zbE hB k
 rw [hf] at h
 exact h
theorem zhj {w : World} {B : Nat} {L : List (ByteArray × Int × Nat)} {c : Nat} (hB : w.heap[B]? = some (zbR Value.string zdh L c)) {k : ByteArray} (hf : zbw skeq k L 0 = none) :
  (Instr.lookup 105 (.map (some B)) (.string k) true).run Try.prog w = .ok (.tuple #[.agg #[.int .i64 0], .bool false]) w := by
 have h := zcs (P := Try.prog) (T := 105) (venc := zdh) zgR Try.underlying105 zbE hB k
 rw [hf] at h
 exact h
theorem cell_below {w w' : World} (hb : Below w.heap.size w w') {a : Addr} {u : Value} (h : w.cell? a = some u) : w'.cell? a = some u := by
 have hlt : a.block < w.heap.size := by
  refine Classical.byContradiction fun hc => ?_
  have hn : w.heap[a.block]? = none := Array.getElem?_eq_none (Nat.le_of_not_lt hc)
  unfold World.cell? at h
  rw [hn] at h
  simp at h
 rw [← h]
 exact World.cell?_of_block (hb.block _ hlt)
theorem zfQ (A0 : Option Addr) (c0 : Nat) (t : List (S64)) (nm : ByteArray) (w : World) (hr0 : Kd.C k64 w A0 t.length t) (hs : Small t) (hml : ((lineL t nm).reverse.flatMap fun p => (clsAt t p).f3).length < 2199023255552) :
  Calls Try.prog 43 #[.slice A0 t.length c0, .string nm] w fun e w' => ∃ v, e = .returned v ∧ Kd.S k61 61 w' w.heap.size (fun _ => True) v (zdL t nm) ∧ Below w.heap.size w w' := by
 have hu := Try.underlying64
 have hu61 := Try.underlying61
 obtain ⟨B, hB⟩ : ∃ B, B = w.heap.size := ⟨_, rfl⟩
 obtain ⟨W0, hW0⟩ : ∃ W : World, W = w.alloc (.map #[] 0) := ⟨_, rfl⟩
 have hmm : (Instr.makeMap 105 none).run Try.prog w = .ok (.map (some B)) W0 := by rw [hW0, hB]; rfl
 have hbW0 : Below w.heap.size w W0 := by rw [hW0]; exact (Below.refl _ _).alloc (Nat.le_refl _) _
 have HMS0 := zaa.mk (show W0.heap[B]? = some (zbR Value.string zdh (entsS [] 0) 0) ∧ Below w.heap.size w W0 from ⟨by rw [hW0]; exact at_new _ _ hB, hbW0⟩)
 have HBB := zaa.mk (show w.heap.size ≤ B by omega)
 have HLI := zaa.mk (zew A0 c0 t nm W0 (Kd.zat hr0 hbW0) hs.all)
 have HR0 := zaa.mk hr0
 have HS := zaa.mk hs
 unfold zdL zji
 have hLL : (lineL t nm).reverse.length ≤ t.length + 1 := by rw [List.length_reverse]; exact zdQ t nm
 have hin : ∀ q ∈ (lineL t nm).reverse, q < t.length := fun q hq => zcq t _ _ _ q (List.mem_reverse.1 hq)
 obtain ⟨L, hL⟩ : ∃ L, L = (lineL t nm).reverse := ⟨_, rfl⟩
 rw [← hL] at hin hLL hml ⊢
 rw [← hL] at HLI
 have HIN := zaa.mk hin
 have HML := zaa.mk hml
 have hlt := hs.all
 clear hr0 hL hin hml hB hW0 hbW0 hs
 go_enter Try.func43, Try.ntmps43
 go_wp2_with fail
 refine HLI.out.mono ?_
 rintro e w1 ⟨v, rfl, hR1, hb1⟩
 obtain ⟨A9, c9, rfl, hc9, hC9⟩ := Kd.zb4 hR1
 have HC9 := zaa.mk hC9
 have bM1 := (hb1.block _ (zai HMS0.out.1)).trans HMS0.out.1
 have HMS1 := zaa.mk (show MS w1 B [] (.slice none 0 0) w1 from ⟨bM1, Mv.refl _ _, Kd.S_nil _ _ _ _ _⟩)
 have HB1 := zaa.mk (HMS0.out.2.trans (hb1.mono HMS0.out.2.size))
 have HRL := zaa.mk (And.intro hR1 bM1)
 clear hR1 hC9 hb1 hc9 HLI HMS0 HC9 bM1
 go_wp2_with fail
 go_loopw [4, 17] (fun v4 v17 wr => ∃ i : Nat, i ≤ L.length ∧ v17 = .int .i64 i ∧ zaa (MS w1 B (((L.take i).flatMap fun p => (clsAt t p).f3).foldl putS []) v4 wr)) (fun _ v17 _ => L.length - (intOf v17).toNat)
 case atStart => exact ⟨0, Nat.zero_le _, rfl, HMS1⟩
 case round =>
  clear HMS1 hmm
  obtain ⟨i, hi, rfl, HM⟩ := hrel
  by_cases hlt2 : i < L.length
  ·
   have hRr := Kd.zcv (w1 := wr) (Kd.zbB HRL.out.1) (fun k hk hl => HM.out.mv.block k hl (fun e => by
    rcases e with e | e
    ·
     obtain ⟨_, _, _, q, _, cs, hc⟩ := hk
     have := HRL.out.2
     rw [← e, hc] at this; cases this
    ·
     omega))
   obtain ⟨A9', c9', e9, _, hC9⟩ := Kd.zb4 hRr
   cases e9
   obtain ⟨ad9, hA9, x9⟩ := (Kd.zdU (d := 0) hC9).at_ (i : Int) o9 o9
   obtain ⟨p, hp⟩ : ∃ p, p = rdOf 0 L (i : Int) := ⟨_, rfl⟩
   have hpe : L[i]? = some p := by
    rw [hp]; unfold rdOf
    rw [Int.toNat_natCast, List.getD_eq_getElem?_getD, List.getElem?_eq_getElem hlt2]; rfl
   have hpl : p < t.length := HIN.out _ (List.mem_of_getElem? hpe)
   have hsn : (L.take (i + 1)).flatMap (fun p => (clsAt t p).f3) = (L.take i).flatMap (fun p => (clsAt t p).f3) ++ (clsAt t p).f3 := by
    rw [List.take_add_one, hpe]
    simp
   have htot : ((L.take i).flatMap fun p => (clsAt t p).f3).length + (clsAt t p).f3.length < 2199023255552 := by
    have h1 := HML.out
    rw [← List.take_append_drop (i + 1) L, List.flatMap_append, hsn] at h1
    simp only [List.length_append] at h1
    omega
   rw [← hp] at x9
   obtain ⟨ad, A2, c2, A3, c3, hA0, x0, x1, x2, x3, l2, C2, l3, C3⟩ := zdD HR0.out (p : Int) o9 o9
   rw [Int.toNat_natCast] at x9
   simp only [Int.toNat_natCast] at x0 x1 x2 x3
   subst hA9
   subst hA0
   simp only [encP, Option.map_some] at x9
   obtain ⟨ms, hms⟩ : ∃ ms, ms = (clsAt t p).f3 := ⟨_, rfl⟩
   have hx3 := cell_below (HM.out.bl HB1.out HBB.out) x3
   change wr.cell? _ = some (.slice A3 (clsAt t p).f3.length c3) at hx3
   change Kd.C k61 w A3 (clsAt t p).f3.length (clsAt t p).f3 at C3
   have hps : ∀ m ∈ ms, m.f1.length < 4398046511104 := by rw [hms]; exact HS.out.ps p hpl
   rw [← hms] at hx3 C3 hsn htot
   obtain ⟨pre, hpre⟩ : ∃ pre, pre = ((L.take i).flatMap fun p => (clsAt t p).f3) := ⟨_, rfl⟩
   rw [← hpre] at hsn htot HM
   have hol := (zhE pre []).2
   have HC3 := zaa.mk C3
   have HPS := zaa.mk hps
   have HSN := zaa.mk hsn
   have HTOT := zaa.mk (show (pre.foldl putS []).length + ms.length < 2199023255552 by simp at hol; omega)
   obtain ⟨acc, hacc⟩ : ∃ acc, acc = pre.foldl putS [] := ⟨_, rfl⟩
   rw [← hacc] at HM HTOT
   have HACC := zaa.mk hacc
   have HMW := zaa.mk HM.out
   have HP := zaa.mk (And.intro hpl hms)
   clear HM hRr hC9 x0 x1 x2 x3 C2 C3 l2 l3 hpe hpl hsn htot hp hms hpre hol hacc hps
   have i0 : (0 : Int) ≤ (i : Int) := by omega
   have i1 : (i : Int) < (L.length : Int) := by omega
   go_wp2_with fail
   rename World => wo
   go_loopw [4, 26] (fun v4 v26 wq => ∃ j : Nat, j ≤ ms.length ∧ v26 = .int .i64 j ∧ zaa (MS w1 B ((ms.take j).foldl putS acc) v4 wq)) (fun _ v26 _ => ms.length - (intOf v26).toNat)
   case atStart => exact ⟨0, Nat.zero_le _, rfl, HMW⟩
   case round =>
    obtain ⟨j, hj, rfl, HQ⟩ := hrel
    by_cases hlj : j < ms.length
    ·
     obtain ⟨adm, A1, c1, hAm, m0, m1, m2, ml, MC⟩ := zdM (Kd.zat HC3.out (HQ.out.bl HB1.out HBB.out)) (j : Int) o9 o9
     rw [Int.toNat_natCast] at m0 m1 m2
     subst hAm
     obtain ⟨m, hm⟩ : ∃ m, m = za6 ms (j : Int) := ⟨_, rfl⟩
     rw [← hm] at m0 m1 m2 ml MC
     have hpsm : m.f1.length < 4398046511104 := HPS.out m (by
      rw [hm]
      unfold za6
      rw [Int.toNat_natCast, List.getD_eq_getElem?_getD, List.getElem?_eq_getElem hlj]
      exact List.getElem_mem hlj)
     have hmj : ms[j]? = some m := by
      rw [hm]
      unfold za6
      rw [Int.toNat_natCast, List.getD_eq_getElem?_getD, List.getElem?_eq_getElem hlj]; rfl
     obtain ⟨out, hout⟩ : ∃ out, out = (ms.take j).foldl putS acc := ⟨_, rfl⟩
     rw [← hout] at HQ
     have hfold : (ms.take (j + 1)).foldl putS acc = putS out m := by
      rw [List.take_add_one, hmj, hout]
      simp [List.foldl_append]
     have hol : out.length + 1 ≤ 2199023255552 := by
      have h1 := (zhE (ms.take j) acc).2
      have h2 := HTOT.out
      have h3 : (ms.take j).length ≤ j := by simp; omega
      rw [← hout] at h1
      omega
     obtain ⟨W1, hW1⟩ : ∃ W1, W1 = wr.alloc (.cells #[.string m.f0, .slice A1 m.f1.length c1, .string m.f2] 61) := ⟨_, rfl⟩
     have hb1 : Below wr.heap.size wr W1 := by rw [hW1]; exact (Below.refl _ _).alloc (Nat.le_refl _) _
     have hbox : W1.heap[wr.heap.size]? = some (.cells #[.string m.f0, .slice A1 m.f1.length c1, .string m.f2] 61 (0, 0)) := by rw [hW1]; exact at_new _ _ rfl
     have hbx := hbox
     rw [hW1] at hbx
     have y0 := zad hbx 0
     have y1 := zad hbx 1
     have y2 := zad hbx 2
     simp only [List.getElem?_toArray, List.getElem?_cons_zero, List.getElem?_cons_succ] at y0 y1 y2
     have HCL := zaa.mk (zef A1 c1 m.f1 W1 (Kd.zat MC hb1) hpsm)
     have HF := zaa.mk (And.intro hfold hol)
     have hmsl : ms.length < 2199023255552 := by have := HTOT.out; omega
     have HBX := zaa.mk (And.intro hb1 hbox)
     have HW1 := zaa.mk hW1
     clear hm hpsm hmj hout hfold hol hb1 hbox hbx MC ml hW1
     have j0 : (0 : Int) ≤ (j : Int) := by omega
     have j1 : (j : Int) < (ms.length : Int) := by omega
     go_wp2_with fail
     rw [← HW1.out]
     refine HCL.out.mono ?_
     rintro e w2 ⟨v2, rfl, hR2, hb2⟩
     obtain ⟨A5, c5, hv2⟩ := Kd.zbj hR2
     subst hv2
     have hbox2 := (hb2.block _ (zai HBX.out.2)).trans HBX.out.2
     have z1 := zad hbox2 1
     have fz1 := free_at hbox2 1
     simp only [List.getElem?_toArray, List.getElem?_cons_zero, List.getElem?_cons_succ] at z1
     obtain ⟨w3, hw3⟩ : ∃ w3, w3 = w2.setCell ⟨wr.heap.size, 1, none⟩ (.slice A5 m.f1.length c5) := ⟨_, rfl⟩
     have hbox3 : w3.heap[wr.heap.size]? = some (.cells #[.string m.f0, .slice A5 m.f1.length c5, .string m.f2] 61 (0, 0)) := by rw [hw3]; exact zaf hbox2 1 _ rfl
     have hB2 : Below wr.heap.size wr w2 := HBX.out.1.trans (hb2.mono HBX.out.1.size)
     have hB3 : Below wr.heap.size wr w3 := by rw [hw3]; exact hB2.trans (((Mv.refl (fun k => k = wr.heap.size) w2).setCell (p := ⟨wr.heap.size, 1, none⟩) (.inl rfl) _).below hB2.size (fun k h => by omega))
     have hszb : wr.heap.size < W1.heap.size := zai HBX.out.2
     have hR3 : Kd.R k58 58 w3 W1.heap.size (fun _ => True) (.slice A5 m.f1.length c5) m.f1 := by rw [hw3]; exact Kd.R_set hR2 hbox2 d9 1 _
     have hM3 := (hB3.block _ (zai HQ.out.bM)).trans HQ.out.bM
     have z3_0 := zad hbox3 0
     have z3_1 := zad hbox3 1
     have z3_2 := zad hbox3 2
     simp only [List.getElem?_toArray, List.getElem?_cons_zero, List.getElem?_cons_succ] at z3_0 z3_1 z3_2
     have HB3 := zaa.mk hB3
     have HBO3 := zaa.mk hbox3
     have HR3 := zaa.mk (And.intro hR3 hszb)
     have HW3 := zaa.mk hw3
     have hfi := zdZ m.f0 (out.map (·.f0)) 0 0
     cases hn : nidx m.f0 (out.map (·.f0)) 0 with
     | none =>
      rw [hn] at hfi
      have hlk := zhj hM3 hfi
      have hput : putS out m = out ++ [m] := by unfold putS; rw [hn]
      have hnm := zfk out m
      rw [hn, hput] at hnm
      simp only at hnm
      rw [hw3] at hlk z3_0
      obtain ⟨W4, hW4⟩ : ∃ W4, W4 = w3.alloc (.cells #[.int .i64 0] 108) := ⟨_, rfl⟩
      have hB34 : Below w3.heap.size w3 W4 := by rw [hW4]; exact (Below.refl _ _).alloc (Nat.le_refl _) _
      have hM4 := (hB34.block _ (zai hM3)).trans hM3
      have hbox4 := (hB34.block _ (zai hbox3)).trans hbox3
      have hup := zdk (P := Try.prog) (T := 105) (venc := zdh) zgR Try.underlying105 hM4 m.f0 ((out.map (·.f0)).length : Int)
      rw [zjD m.f0 (out.map (·.f0)) hn] at hup
      obtain ⟨w5, hw5⟩ : ∃ w5, w5 = W4.putObj B (zbR Value.string zdh (entsS (out.map (·.f0) ++ [m.f0]) 0) (out.map (·.f0) ++ [m.f0]).length) := ⟨_, rfl⟩
      simp only [zdh] at hup
      have hne : wr.heap.size ≠ B := fun e => by have := zai HQ.out.bM; omega
      have hu5 : (Instr.mapUpdate 105 (.map (some B)) (.string m.f0) (.agg #[.int .i64 (out.length : Int)])).run Try.prog W4 = .ok () w5 := by
       rw [hw5]
       rw [List.length_map] at hup
       exact hup
      have y4_0 := zad hbox4 0
      simp only [List.getElem?_toArray, List.getElem?_cons_zero, List.getElem?_cons_succ] at y4_0
      rw [hW4, hw3] at hu5 y4_0
      have hbox5 : w5.heap[wr.heap.size]? = some (.cells #[.string m.f0, .slice A5 m.f1.length c5, .string m.f2] 61 (0, 0)) := by rw [hw5]; exact zcP hbox4 hne _
      have hM5 : w5.heap[B]? = some (zbR Value.string zdh (entsS (out.map (·.f0) ++ [m.f0]) 0) (out.map (·.f0) ++ [m.f0]).length) := by rw [hw5]; exact World.putObj_heap_same (zai hM4)
      have hB4 : Below wr.heap.size wr W4 := hB3.trans (hB34.mono hB3.size)
      have hmv5 : Mv (fun k => k = B) W4 w5 := by rw [hw5]; exact (Mv.refl (fun k => k = B) W4).putObj (.inl rfl) _
      have hmvA : Mv (fun k => k = B ∨ wr.heap.size ≤ k) wr w5 := ((Mv.of_below hB4).mono (fun k _ h => .inr h)).trans (hmv5.mono (fun k _ h => .inl h))
      have hS4 := Kd.zfW (v := .slice A5 m.f1.length c5) HQ.out.ho (fun k hk => by have := Kd.zci hR3 k hk; omega) hB4
      have hBcells : ∀ cs q, W4.heap[B]? ≠ some (.cells cs q (0, 0)) := fun cs q e => by rw [hM4] at e; cases e
      have hS5 : Kd.S k61 61 w5 w1.heap.size (fun k => True ∧ some k ≠ (Value.slice A5 m.f1.length c5).ownBlock) u4 out := Kd.zeY (Kd.ziG (Kd.zgO hS4) (fun k hk hl => hmv5.block k hl (fun e => by
       obtain ⟨_, _, _, q, _, cs, hc⟩ := hk
       rw [e] at hc
       exact hBcells cs q hc))) (fun k hk => hk.1)
      have hR4 := Kd.zbC hR3 hB34
      have hR5 : Kd.R k58 58 w5 w1.heap.size (fun _ => True) (.slice A5 m.f1.length c5) m.f1 := Kd.zbi (Kd.za0 (Kd.zcv (Kd.zbB hR4) (fun k hk hl => hmv5.block k hl (fun e => by
       obtain ⟨_, _, _, q, _, cs, hc⟩ := hk
       rw [e] at hc
       exact hBcells cs q hc))) (fun _ _ => trivial)) (by have := HQ.out.mv.size; omega)
      have y5_0 := zad hbox5 0
      have y5_1 := zad hbox5 1
      have y5_2 := zad hbox5 2
      simp only [List.getElem?_toArray, List.getElem?_cons_zero, List.getElem?_cons_succ] at y5_0 y5_1 y5_2
      obtain ⟨A4, c4, hu4⟩ := Kd.zgT HQ.out.ho
      subst hu4
      have HH := zaa.mk (And.intro hS5 (And.intro hR5 (And.intro hput hnm)))
      have HN := zaa.mk (And.intro hM5 (And.intro (HQ.out.mv.trans (hmvA.mono (fun k _ h => h.imp id (fun h => by have := HQ.out.mv.size; omega)))) (show w1.heap.size ≤ w5.heap.size from Nat.le_trans HQ.out.mv.size hmvA.size)))
      clear hfi hn hput hnm hB34 hM4 hbox4 hup hw5 hne hbox5 hM5 hB4 hmv5 hmvA hS4 hBcells hS5 hR4 hR5 hM3 hR3 hszb hB3 hB2 hbox3 hbox2 hR2 hb2 z3_1 z3_2 HW3 HR3 HBO3
      subst hW4
      subst hw3
      go_wp2_with ((with_reducible refine zbS (b := .append) (xs := #[.tmp 53, .tmp 55]) rfl ?_); at_builtin; refine Kd.zhv k61 (w0 := w5) w1.heap.size rfl (.tmp 53) (.tmp 55) 62 61 (.agg #[(.string ⟨#[]⟩), (.slice none 0 0), (.string ⟨#[]⟩)]) 56 rfl Try.underlying62 zlc rfl d9 o9 (.slice A4 out.length c4) out m [.string m.f0, .slice A5 m.f1.length c5, .string m.f2] (fun _ => True) (fun k_ => some k_ = (Value.slice A5 m.f1.length c5).ownBlock) rfl rfl ?aP ?aQ (fun _ _ => trivial) HH.out.1 (Below.refl _ _ |>.mono HN.out.2.2) HN.out.2.2 ?aL ?_; (case aP => exact ziH _ _ _ m (Kd.za0 (Kd.zeP rfl HH.out.2.1) (fun _ h_ => h_))); (case aQ => exact fun k_ hk_ => ⟨trivial, fun e_ => by obtain ⟨cs1, hc1⟩ := Kd.zeO HH.out.1 k_ e_.symm; obtain ⟨cs2, hc2⟩ := Kd.zd7 HH.out.2.1 k_ hk_.symm; rw [hc1] at hc2; cases hc2⟩); (case aL => have := HF.out.2; omega); intro v6 w6 hS6 hB6 hg6 _; have HS6 := zaa.mk hS6; have HB6 := zaa.mk (And.intro hB6 hg6); clear hS6 hB6 hg6)
      have hM6 := (HB6.out.2.block B (zai HN.out.1) (fun e => by
       obtain ⟨cs, hcs⟩ := Kd.zeO HH.out.1 B e.symm
       rw [HN.out.1] at hcs
       cases hcs)).trans HN.out.1
      have NEW := zaa.mk (show MS w1 B ((ms.take (j + 1)).foldl putS acc) v6 w6 from by
       rw [HF.out.1, HH.out.2.2.1]
       refine ⟨?_, HN.out.2.1.trans ((Mv.of_below HB6.out.1).mono (fun k _ h => .inr h)), HS6.out⟩
       rw [HH.out.2.2.2]
       exact hM6)
      clear hM6 HB6 HS6 HH HN
      go_roundw
      case rel => exact ⟨j + 1, by omega, by go_num, NEW⟩
      case measure => simp [intOf]; omega
     | some q =>
      rw [hn] at hfi
      have hlk := zg9 hM3 hfi
      obtain ⟨_, hq, _⟩ := zfN _ _ 0 q hn
      rw [List.length_map, Nat.zero_add] at hq
      have hput : putS out m = out.set q m := by unfold putS; rw [hn]
      have hnm := zfk out m
      rw [hn, hput] at hnm
      simp only at hnm
      rw [hw3] at hlk z3_0
      obtain ⟨W4, hW4⟩ : ∃ W4, W4 = w3.alloc (.cells #[.int .i64 (q : Int)] 108) := ⟨_, rfl⟩
      have hB34 : Below w3.heap.size w3 W4 := by rw [hW4]; exact (Below.refl _ _).alloc (Nat.le_refl _) _
      have hB4 : Below wr.heap.size wr W4 := hB3.trans (hB34.mono hB3.size)
      have hbox4 := (hB34.block _ (zai hbox3)).trans hbox3
      rw [hW4, hw3] at hbox4
      have y4_0 := zad hbox4 0
      have y4_1 := zad hbox4 1
      have y4_2 := zad hbox4 2
      simp only [List.getElem?_toArray, List.getElem?_cons_zero, List.getElem?_cons_succ] at y4_0 y4_1 y4_2
      obtain ⟨gq, cap, hu4, hgb, hgl, _⟩ := Kd.zlU HQ.out.ho o9
      subst hu4
      have hSE := Kd.zfW (v := .slice A5 m.f1.length c5) HQ.out.ho (fun k hk => by have := Kd.zci hR3 k hk; omega) hB4
      obtain ⟨oki, cq, hcl, _, _, _, _, hH⟩ := Kd.zlP hSE z61 (q : Int) o9 o9
      have hH2 := Kd.zlQ (ok := fun _ => True) (okg := fun k => some k = (Value.slice A5 m.f1.length c5).ownBlock) hH (fun _ _ => trivial)
      have hR4 := Kd.zbi (base' := w1.heap.size) (Kd.zbC hR3 hB34) (by have := HQ.out.mv.size; omega)
      have HH := zaa.mk (And.intro hH2 (And.intro hcl (And.intro hR4 hput)))
      have HNM := zaa.mk hnm
      have HB4 := zaa.mk (And.intro hB4 hW4)
      have HQL := zaa.mk hq
      have q0 : (0 : Int) ≤ (q : Int) := by omega
      have q1 : (q : Int) < (out.length : Int) := by omega
      have hM4 := (hB34.block _ (zai hM3)).trans hM3
      have HM4 := zaa.mk hM4
      clear hfi hn hq hput hnm hB34 hB4 hbox4 hSE hcl hH hH2 hR4 hM4 hgb hgl hM3 hR3 hszb hB3 hB2 hbox3 hbox2 hR2 hb2 z3_1 z3_2
      have HBE := zaa.mk (HQ.out.bl HB1.out HBB.out |>.trans (HB4.out.1.mono (HQ.out.bl HB1.out HBB.out).size))
      have HB14 := zaa.mk (show Below w1.heap.size wr W4 from HB4.out.1.mono HQ.out.mv.size)
      clear HW3 HR3
      subst hW4
      subst hw3
      go_wp2_with ((with_reducible refine ziw (t := 61) (p := 46) rfl ?_); refine Kd.zk4 k61 (w0 := wr) w1.heap.size rfl rfl 61 (.tmp 46) (.tmp 45) rfl 61 (q : Int) 0 out m (.agg #[.string m.f0, .slice A5 m.f1.length c5, .string m.f2]) [.string m.f0, .slice A5 m.f1.length c5, .string m.f2] cq (fun _ => True) _ (fun k => some k = (Value.slice A5 m.f1.length c5).ownBlock) rfl (by simp; rfl) rfl rfl k9 (by simp [Value.oneCell']) HH.out.1 q0 q1 (Nat.le_refl 3) ?hM (fun k hk => .inr hk) HB14.out ?_; (case hM => rw [List.take_zero, List.nil_append, List.drop_eq_nil_iff.2 (by rw [HH.out.2.1]; exact Nat.le_refl 3), List.append_nil]; exact ziH _ _ _ m (Kd.za0 (Kd.zeP rfl HH.out.2.2.1) (fun _ h_ => h_))); intro w5 hS5 hB5 hg5; have HS5 := zaa.mk hS5; have HB5 := zaa.mk (And.intro hB5 hg5); clear hS5 hB5 hg5)
      have hM5 := (HB5.out.2.block B (zai HM4.out) (fun e => by
       injection e with e
       have h1 := Kd.zeO HS5.out gq (by simp [Value.ownBlock])
       obtain ⟨cs, hcs⟩ := Kd.zeO HQ.out.ho gq (by simp [Value.ownBlock])
       have h2 := HQ.out.bM
       rw [e, hcs] at h2
       cases h2)).trans HM4.out
      have NEW := zaa.mk (show MS w1 B ((ms.take (j + 1)).foldl putS acc) (.slice (some ⟨gq, 0, none⟩) out.length cap) w5 from by
       rw [HF.out.1, HH.out.2.2.2]
       refine ⟨?_, HQ.out.mv.trans ((Mv.of_below HB5.out.1).mono (fun k _ h => .inr h)), HS5.out⟩
       rw [HNM.out]
       exact hM5)
      clear hM5 HB5 HS5 HH HNM HM4
      go_roundw
      case rel => exact ⟨j + 1, by omega, by go_num, NEW⟩
      case measure => simp [intOf]; omega
    ·
     obtain rfl : j = ms.length := by omega
     have NEW := zaa.mk (show MS w1 B (((L.take (i + 1)).flatMap fun p => (clsAt t p).f3).foldl putS []) u4 wr from by
      rw [HSN.out, List.foldl_append, ← HACC.out]
      have := HQ.out
      rw [List.take_length] at this
      exact this)
     clear HQ hj hlj HSN HACC HTOT HPS HC3 HMW HP
     go_wp2_with fail
     go_roundw
     case rel => exact ⟨i + 1, by omega, by go_num, NEW⟩
     case measure => simp [intOf]; omega
  ·
   obtain rfl : i = L.length := by omega
   have HM2 := HM.out
   rw [List.take_length] at HM2
   have HM3 := zaa.mk HM2
   clear HM HM2 hlt2 hi
   go_wp2_with fail
   go_ret
   exact ⟨_, rfl, Kd.zjE HM3.out.ho HB1.out.size, HM3.out.bl HB1.out HBB.out⟩
end Go.Proofs.YtinkbljjpafadaaTab
end

section
namespace Go.Proofs.Ytinkbljjpafadaa.PAll
open Go.RowKit Go.Proofs.YtinkbljjpafadaaW.PrintWords Go.Proofs.YtinkbljjpafadaaW.PrintLast Go.Proofs.YtinkbljjpafadaaW.zaT
attribute [local go_sem] za7 zba zbo zbp zaW zaV za8 za9
theorem eqA33 (d : Nat) (w : World) (x0 y0 : ByteArray) (x1 y1 : Int) :
  (Op.equalIn (d + 2) 33 (.agg #[.string x0, .int .i64 x1]) (.agg #[.string y0, .int .i64 y1])).run Try.prog w = .ok (x0.toList == y0.toList && (x1 == y1)) w := by
 refine zjf Try.underlying33 k9 ?_
 refine zen (by rfl) (by go_simp; rfl) (by go_simp; rfl) q9 ?_
 exact zfI (by rfl) (by go_simp; rfl) (by go_simp; rfl) q9
end Go.Proofs.Ytinkbljjpafadaa.PAll
end

section
namespace Go.Proofs.YtinkbljjpafadaaTab
open Go.RowKit Go.Proofs.Ytinkbljjpafadaa.PAll Go.Proofs.YtinkbljjpafadaaW.PrintWords Go.Proofs.YtinkbljjpafadaaW.PrintLast Go.Proofs.YtinkbljjpafadaaRF Go.Proofs.YtinkbljjpafadaaRG
attribute [local go_sem] Oper.semAt_some
attribute [local go_sem high] eqA33
def eqM (x y : S33) : Bool := x.f0.toList == y.f0.toList && (x.f1 == y.f1)
def idxP {α : Type} (p : α → Bool) : List α → Nat → Int
 | [], _ => -1
 | x :: r, i => if p x = true then (i : Int) else idxP p r (i + 1)
theorem zhb {α : Type} (p : α → Bool) (z : α) (l : List α) (i : Nat) (h : i < l.length) : idxP p (l.drop i) i = if p (l.getD i z) = true then (i : Int) else idxP p (l.drop (i + 1)) (i + 1) := by
 rw [List.drop_eq_getElem_cons h, List.getD_eq_getElem?_getD, List.getElem?_eq_getElem h]; rfl
theorem zek {α : Type} (p : α → Bool) : ∀ (l : List α) (i : Nat), decide (idxP p l i ≥ 0) = l.any p
 | [], i => rfl
 | x :: r, i => by
  unfold idxP
  by_cases h : p x = true
  ·
   rw [if_pos h]; simp [h]
  ·
   rw [if_neg h, zek p r (i + 1)]; simp [h]
def hasM (l : List (S33)) (m : S33) : Bool := l.any fun x => eqM m x
theorem zgb (A0 : Option Addr) (c0 : Nat) (l0 : List (S33)) (m : S33) (w : World) (hr0 : Kd.C k33 w A0 l0.length l0) (hl : l0.length < 4398046511104) :
  Calls Try.prog 50 #[.slice A0 l0.length c0, .agg #[.string m.f0, .int .i64 m.f1]] w fun e w' => e = .returned (.int .i64 (idxP (eqM m) l0 0)) ∧ Below w.heap.size w w' := by
 have hu := Try.underlying33
 obtain ⟨r, hr⟩ : ∃ r, r = idxP (eqM m) l0 0 := ⟨_, rfl⟩
 rw [← hr]
 obtain ⟨w1, hw1⟩ : ∃ w1, w1 = w.alloc (.cells #[.string m.f0, .int .i64 m.f1] 33) := ⟨_, rfl⟩
 have hb1 : Below w.heap.size w w1 := by rw [hw1]; exact (Below.refl _ _).alloc (Nat.le_refl _) _
 have hm : w1.heap[w.heap.size]? = some (.cells #[.string m.f0, .int .i64 m.f1] 33 (0, 0)) := by rw [hw1]; exact at_new _ _ rfl
 have m0 := zad hm 0
 have m1 := zad hm 1
 simp only [List.getElem?_toArray, List.getElem?_cons_zero, List.getElem?_cons_succ] at m0 m1
 have HH := zaa.mk hr.symm
 have HR0 := zaa.mk (Kd.zat hr0 hb1)
 have HB := zaa.mk hb1
 have HEQ := zaa.mk (show ∀ x, eqM m x = (m.f0.toList == x.f0.toList && (m.f1 == x.f1)) from fun _ => rfl)
 have HW := zaa.mk hw1
 clear hr0 hr hm
 go_enter Try.func50, Try.ntmps50
 go_wp2_with fail
 rw [← HW.out]
 clear hb1 hw1
 go_wp2_with fail
 have HS := zaa.mk (show w.heap.size ≤ w1.heap.size from HB.out.size)
 have HM0 := zaa.mk m0
 have HM1 := zaa.mk m1
 clear m0 m1
 go_loopw [8] (fun v8 wr => ∃ i : Nat, i ≤ l0.length ∧ v8 = .int .i64 i ∧ zaa (idxP (eqM m) (l0.drop i) i = r ∧ Below w1.heap.size w1 wr)) (fun v8 _ => l0.length - (intOf v8).toNat)
 case atStart => exact ⟨0, Nat.zero_le _, rfl, ⟨HH.out, Below.refl _ _⟩⟩
 case round =>
  obtain ⟨i, hi, rfl, ⟨hI, hB⟩⟩ := hrel
  have HBW := zaa.mk hB
  have m0 := (hB.cell (block_lt_of_cell HM0.out)).trans HM0.out
  have m1 := (hB.cell (block_lt_of_cell HM1.out)).trans HM1.out
  by_cases hlt : i < l0.length
  ·
   obtain ⟨ad, hA, x0, x1⟩ := zdN (Kd.zat HR0.out hB) (i : Int) o9 o9
   simp only [Int.toNat_natCast] at x0 x1
   have HA := zhb (eqM m) z33 l0 i hlt
   rw [hI] at HA
   obtain ⟨x, hx⟩ : ∃ x, x = zbH l0 (i : Int) := ⟨_, rfl⟩
   rw [show l0.getD i z33 = x by rw [hx]; unfold zbH; rw [Int.toNat_natCast]] at HA
   rw [← hx] at x0 x1
   clear hx hB hI
   subst hA
   by_cases he : eqM m x = true
   ·
    rw [if_pos he] at HA
    have hq : (m.f0.toList == x.f0.toList && (m.f1 == x.f1)) = true := by rw [← HEQ.out]; exact he
    subst HA
    clear he
    go_wp2
    repeat (go_quiet (fail); try go_wp2)
    go_ret
    exact ⟨rfl, HB.out.trans ((by repeat (first | exact HBW.out | apply zbm | apply zb8) : Below w1.heap.size w1 _).mono HS.out)⟩
   ·
    rw [if_neg he] at HA
    have hq : (m.f0.toList == x.f0.toList && (m.f1 == x.f1)) = false := by rw [← HEQ.out]; simpa using he
    have HA2 := zaa.mk HA.symm
    clear he HA
    go_wp2
    repeat (go_quiet (fail); try go_wp2)
    go_roundw
    case rel => exact ⟨i + 1, by omega, by go_num, ⟨HA2.out, by repeat (first | exact HBW.out | apply zbm | apply zb8)⟩⟩
    case measure => simp [intOf]; omega
  ·
   have hi2 : i = l0.length := by omega
   rw [hi2, List.drop_length] at hI
   have HA2 := zaa.mk hI
   clear hI hi2 hB
   go_wp2_with fail
   go_ret
   exact ⟨by rw [← HA2.out]; rfl, HB.out.trans (HBW.out.mono HS.out)⟩
theorem zc9 (A0 : Option Addr) (c0 : Nat) (l0 : List (S33)) (m : S33) (w : World) (hr0 : Kd.C k33 w A0 l0.length l0) (hl : l0.length < 4398046511104) :
  Calls Try.prog 34 #[.slice A0 l0.length c0, .agg #[.string m.f0, .int .i64 m.f1]] w fun e w' => e = .returned (.bool (hasM l0 m)) ∧ Below w.heap.size w w' := by
 have hu := Try.underlying33
 unfold hasM
 rw [← zek (eqM m) l0 0]
 obtain ⟨w1, hw1⟩ : ∃ w1, w1 = w.alloc (.cells #[.string m.f0, .int .i64 m.f1] 33) := ⟨_, rfl⟩
 have hb1 : Below w.heap.size w w1 := by rw [hw1]; exact (Below.refl _ _).alloc (Nat.le_refl _) _
 have hm : w1.heap[w.heap.size]? = some (.cells #[.string m.f0, .int .i64 m.f1] 33 (0, 0)) := by rw [hw1]; exact at_new _ _ rfl
 have m0 := zad hm 0
 have m1 := zad hm 1
 simp only [List.getElem?_toArray, List.getElem?_cons_zero, List.getElem?_cons_succ] at m0 m1
 have HI := zaa.mk (zgb A0 c0 l0 m w1 (Kd.zat hr0 hb1) hl)
 have HB := zaa.mk hb1
 have HW := zaa.mk hw1
 obtain ⟨r, hr⟩ : ∃ r, r = idxP (eqM m) l0 0 := ⟨_, rfl⟩
 rw [← hr] at HI ⊢
 clear hr0 hr hm
 go_enter Try.func34, Try.ntmps34
 go_wp2_with fail
 rw [← HW.out]
 clear hb1 hw1
 go_wp2_with fail
 refine HI.out.mono ?_
 rintro e w2 ⟨rfl, hb⟩
 have HB2 := zaa.mk (HB.out.trans (hb.mono HB.out.size))
 clear HI hb
 go_wp2_with fail
 go_ret
 exact ⟨rfl, HB2.out⟩
theorem at_LM {w : World} {A : Option Addr} {n : Nat} {xs : List (List (S33))} (h : Kd.C (Kd.slice 33 k33) w A n xs) (i : Int) (h0 : 0 ≤ i) (h1 : i < n) : ∃ ad A0 c0, A = some ad ∧ w.cell? (ad.add i.toNat) = some (.slice A0 (xs.getD i.toNat []).length c0) ∧ (xs.getD i.toNat []).length ≤ c0 ∧ k33.C w A0 (xs.getD i.toNat []).length (xs.getD i.toNat []) := by
 obtain ⟨ad, c, e, _, hK, hc0⟩ := Kd.C_get h ([] : List (S33)) i h0 h1
 have hc : ∀ j u, c[j]? = some u → w.cell? (ad.add (i.toNat * 1 + j)) = some u := hc0
 obtain ⟨A0, c0, rfl, l0, g0⟩ := hK
 exact ⟨ad, A0, c0, e, by have hq := hc 0 _ rfl; rwa [Nat.mul_one, Nat.add_zero] at hq, l0, g0⟩
theorem zeL (A0 : Option Addr) (c0 : Nat) (l0 : List (S33)) (m : S33) (p : Nat) (w : World) (hp : w.heap[p]? = some (.cells #[.string m.f0, .int .i64 m.f1] 33 (0, 0))) (hr0 : Kd.C k33 w A0 l0.length l0) (hl : l0.length < 4398046511104) :
  Calls Try.prog 33 #[.slice A0 l0.length c0, .pointer (some ⟨p, 0, none⟩)] w fun e w' => e = .returned (.bool (!hasM l0 m)) ∧ Below w.heap.size w w' := by
 have hu := Try.underlying33
 have m0 := zad hp 0
 have m1 := zad hp 1
 simp only [List.getElem?_toArray, List.getElem?_cons_zero, List.getElem?_cons_succ] at m0 m1
 have HC := zaa.mk (zc9 A0 c0 l0 m w hr0 hl)
 obtain ⟨r, hr⟩ : ∃ r, r = hasM l0 m := ⟨_, rfl⟩
 rw [← hr] at HC ⊢
 clear hr0 hp hr
 go_enter Try.func33, Try.ntmps33
 go_wp2_with fail
 refine HC.out.mono ?_
 rintro e w2 ⟨rfl, hb⟩
 have HB2 := zaa.mk hb
 clear HC hb
 go_wp2_with fail
 go_ret
 exact ⟨rfl, HB2.out⟩
theorem zea (B0 : Option Addr) (d0 : Nat) (l : List (S33)) (m : S33) (p : Nat) (w : World) (hp : w.heap[p]? = some (.cells #[.slice B0 l.length d0] 29 (0, 0))) (hr0 : Kd.C k33 w B0 l.length l) (hl : l.length < 4398046511104) :
  Calls Try.prog 65 #[.agg #[.string m.f0, .int .i64 m.f1], .pointer (some ⟨p, 0, none⟩)] w fun e w' => e = .returned (.bool (!hasM l m)) ∧ Below w.heap.size w w' := by
 have hu := Try.underlying33
 obtain ⟨w1, hw1⟩ : ∃ w1, w1 = w.alloc (.cells #[.string m.f0, .int .i64 m.f1] 33) := ⟨_, rfl⟩
 have hb1 : Below w.heap.size w w1 := by rw [hw1]; exact (Below.refl _ _).alloc (Nat.le_refl _) _
 have hm : w1.heap[w.heap.size]? = some (.cells #[.string m.f0, .int .i64 m.f1] 33 (0, 0)) := by rw [hw1]; exact at_new _ _ rfl
 have m0 := zad hm 0
 have m1 := zad hm 1
 have s0 := zad ((hb1.block p (zai hp)).trans hp) 0
 simp only [List.getElem?_toArray, List.getElem?_cons_zero, List.getElem?_cons_succ] at m0 m1 s0
 have s0r := s0
 rw [hw1] at s0r
 have HC := zaa.mk (zc9 B0 d0 l m w1 (Kd.zat hr0 hb1) hl)
 have HB := zaa.mk hb1
 have HW := zaa.mk hw1
 obtain ⟨r, hr⟩ : ∃ r, r = hasM l m := ⟨_, rfl⟩
 rw [← hr] at HC ⊢
 clear hr0 hp hr hm
 go_enter Try.func65, Try.ntmps65
 go_wp2_with fail
 rw [← HW.out]
 clear hb1 hw1
 go_wp2_with fail
 refine HC.out.mono ?_
 rintro e w2 ⟨rfl, hb⟩
 have HB2 := zaa.mk (HB.out.trans (hb.mono HB.out.size))
 clear HC hb
 go_wp2_with fail
 go_ret
 exact ⟨rfl, HB2.out⟩
theorem zf3 (A0 : Option Addr) (c0 : Nat) (l0 : List (List (S33))) (hl : l0.length < 4398046511104) (hls : ∀ x ∈ l0, x.length < 4398046511104) (m : S33) (p : Nat) (w : World) (hp : w.heap[p]? = some (.cells #[.string m.f0, .int .i64 m.f1] 33 (0, 0))) (hr0 : Kd.C (Kd.slice 33 k33) w A0 l0.length l0) :
  Calls Try.prog 49 #[.slice A0 l0.length c0, .func (.func 33) #[] #[.pointer (some ⟨p, 0, none⟩)]] w fun e w' => e = .returned (.int .i64 (idxP (fun l => !hasM l m) l0 0)) ∧ Below w.heap.size w w' := by
 have HR0 := zaa.mk hr0
 have HP := zaa.mk hp
 have HLL := zaa.mk hls
 clear hls
 have hu := Try.underlying33
 obtain ⟨r, hr⟩ : ∃ r, r = idxP (fun l => !hasM l m) l0 0 := ⟨_, rfl⟩
 rw [← hr]
 have HH := zaa.mk hr.symm
 clear hr0 hp hr
 go_enter Try.func49, Try.ntmps49
 go_wp2
 go_loopw [8] (fun v8 wr => ∃ i : Nat, i ≤ l0.length ∧ v8 = .int .i64 i ∧ zaa (idxP (fun l => !hasM l m) (l0.drop i) i = r ∧ Below w.heap.size w wr)) (fun v8 _ => l0.length - (intOf v8).toNat)
 case atStart => exact ⟨0, Nat.zero_le _, rfl, ⟨HH.out, Below.refl _ _⟩⟩
 case round =>
  obtain ⟨i, hi, rfl, ⟨hI, hB⟩⟩ := hrel
  have HB := zaa.mk hB
  by_cases hlt : i < l0.length
  ·
   obtain ⟨ad, A1, c1, hA, x0, x1, x2⟩ := at_LM (Kd.zat HR0.out hB) (i : Int) o9 o9
   simp only [Int.toNat_natCast] at x0 x1 x2
   have HA := zhb (fun l => !hasM l m) [] l0 i hlt
   rw [hI] at HA
   obtain ⟨x, hx⟩ : ∃ x, x = l0.getD i [] := ⟨_, rfl⟩
   have HIN := zaa.mk (show x ∈ l0 by rw [hx, List.getD_eq_getElem?_getD, List.getElem?_eq_getElem hlt]; exact List.getElem_mem hlt)
   rw [← hx] at HA x0 x1 x2
   have HX := zaa.mk x2
   clear x2
   have HPR := zaa.mk ((hB.block p (zai HP.out)).trans HP.out)
   clear hx hI hB
   subst hA
   by_cases he : (fun l => !hasM l m) x = true
   ·
    rw [if_pos he] at HA
    have HQ := zaa.mk he
    subst HA
    clear he
    go_wp2_with fail
    refine (zeL A1 c1 x m p wr HPR.out HX.out (HLL.out x HIN.out)).mono ?_
    rintro e w2 ⟨rfl, hb⟩
    rw [show (!hasM x m) = true from HQ.out]
    have HB2 := zaa.mk (HB.out.trans (hb.mono HB.out.size))
    clear hb
    go_wp2_with fail
    go_ret
    exact ⟨rfl, HB2.out⟩
   ·
    rw [if_neg he] at HA
    have HQ := zaa.mk (show (fun l => !hasM l m) x = false by simpa using he)
    have HA2 := zaa.mk HA.symm
    clear he HA
    go_wp2_with fail
    refine (zeL A1 c1 x m p wr HPR.out HX.out (HLL.out x HIN.out)).mono ?_
    rintro e w2 ⟨rfl, hb⟩
    rw [show (!hasM x m) = false from HQ.out]
    have HB2 := zaa.mk (HB.out.trans (hb.mono HB.out.size))
    clear hb
    go_wp2_with fail
    go_roundw
    case rel => exact ⟨i + 1, by omega, by go_num, ⟨HA2.out, HB2.out⟩⟩
    case measure => simp [intOf]; omega
  ·
   have hi2 : i = l0.length := by omega
   rw [hi2, List.drop_length] at hI
   have HA2 := zaa.mk hI
   clear hI hi2 hB
   go_wp2_with fail
   go_ret
   exact ⟨by rw [← HA2.out]; rfl, HB.out⟩
theorem zg3 (A0 : Option Addr) (c0 : Nat) (l0 : List (List (S33))) (hl : l0.length < 4398046511104) (hls : ∀ x ∈ l0, x.length < 4398046511104) (m : S33) (p : Nat) (w : World) (hp : w.heap[p]? = some (.cells #[.string m.f0, .int .i64 m.f1] 33 (0, 0))) (hr0 : Kd.C (Kd.slice 33 k33) w A0 l0.length l0) :
  Calls Try.prog 32 #[.slice A0 l0.length c0, .func (.func 33) #[] #[.pointer (some ⟨p, 0, none⟩)]] w fun e w' => e = .returned (.bool (l0.any (fun l => !hasM l m))) ∧ Below w.heap.size w w' := by
 have HI := zaa.mk (zf3 A0 c0 l0 hl hls m p w hp hr0)
 rw [← zek (fun l => !hasM l m) l0 0]
 obtain ⟨r, hr⟩ : ∃ r, r = idxP (fun l => !hasM l m) l0 0 := ⟨_, rfl⟩
 rw [← hr] at HI ⊢
 clear hr0 hr
 go_enter Try.func32, Try.ntmps32
 go_wp2_with fail
 refine HI.out.mono ?_
 rintro e w1 ⟨rfl, hb⟩
 have HB := zaa.mk hb
 clear HI hb
 go_wp2_with fail
 go_ret
 exact ⟨rfl, HB.out⟩
theorem zf6 (A0 : Option Addr) (c0 : Nat) (l0 : List (S33)) (hl : l0.length < 4398046511104) (B0 : Option Addr) (d0 : Nat) (ls : List (S33)) (hls : ls.length < 4398046511104) (p : Nat) (w : World) (hp : w.heap[p]? = some (.cells #[.slice B0 ls.length d0] 29 (0, 0))) (hrs : Kd.C k33 w B0 ls.length ls) (hr0 : Kd.C k33 w A0 l0.length l0) :
  Calls Try.prog 76 #[.slice A0 l0.length c0, .func (.func 65) #[] #[.pointer (some ⟨p, 0, none⟩)]] w fun e w' => e = .returned (.int .i64 (idxP (fun x => !hasM ls x) l0 0)) ∧ Below w.heap.size w w' := by
 have HR0 := zaa.mk hr0
 have HP := zaa.mk hp
 have HRS := zaa.mk hrs
 clear hrs
 have hu := Try.underlying33
 obtain ⟨r, hr⟩ : ∃ r, r = idxP (fun x => !hasM ls x) l0 0 := ⟨_, rfl⟩
 rw [← hr]
 have HH := zaa.mk hr.symm
 clear hr0 hp hr
 go_enter Try.func76, Try.ntmps76
 go_wp2
 go_loopw [8] (fun v8 wr => ∃ i : Nat, i ≤ l0.length ∧ v8 = .int .i64 i ∧ zaa (idxP (fun x => !hasM ls x) (l0.drop i) i = r ∧ Below w.heap.size w wr)) (fun v8 _ => l0.length - (intOf v8).toNat)
 case atStart => exact ⟨0, Nat.zero_le _, rfl, ⟨HH.out, Below.refl _ _⟩⟩
 case round =>
  obtain ⟨i, hi, rfl, ⟨hI, hB⟩⟩ := hrel
  have HB := zaa.mk hB
  by_cases hlt : i < l0.length
  ·
   obtain ⟨ad, hA, x0, x1⟩ := zdN (Kd.zat HR0.out hB) (i : Int) o9 o9
   simp only [Int.toNat_natCast] at x0 x1
   have HA := zhb (fun x => !hasM ls x) z33 l0 i hlt
   rw [hI] at HA
   obtain ⟨x, hx⟩ : ∃ x, x = zbH l0 (i : Int) := ⟨_, rfl⟩
   rw [show l0.getD i z33 = x by rw [hx]; unfold zbH; rw [Int.toNat_natCast]] at HA
   rw [← hx] at x0 x1
   have HPR := zaa.mk ((hB.block p (zai HP.out)).trans HP.out)
   clear hx hI hB
   subst hA
   by_cases he : (fun x => !hasM ls x) x = true
   ·
    rw [if_pos he] at HA
    have HQ := zaa.mk he
    subst HA
    clear he
    go_wp2_with fail
    refine (zea B0 d0 ls x p wr HPR.out (Kd.zat HRS.out HB.out) hls).mono ?_
    rintro e w2 ⟨rfl, hb⟩
    rw [show (!hasM ls x) = true from HQ.out]
    have HB2 := zaa.mk (HB.out.trans (hb.mono HB.out.size))
    clear hb
    go_wp2_with fail
    go_ret
    exact ⟨rfl, HB2.out⟩
   ·
    rw [if_neg he] at HA
    have HQ := zaa.mk (show (fun x => !hasM ls x) x = false by simpa using he)
    have HA2 := zaa.mk HA.symm
    clear he HA
    go_wp2_with fail
    refine (zea B0 d0 ls x p wr HPR.out (Kd.zat HRS.out HB.out) hls).mono ?_
    rintro e w2 ⟨rfl, hb⟩
    rw [show (!hasM ls x) = false from HQ.out]
    have HB2 := zaa.mk (HB.out.trans (hb.mono HB.out.size))
    clear hb
    go_wp2_with fail
    go_roundw
    case rel => exact ⟨i + 1, by omega, by go_num, ⟨HA2.out, HB2.out⟩⟩
    case measure => simp [intOf]; omega
  ·
   have hi2 : i = l0.length := by omega
   rw [hi2, List.drop_length] at hI
   have HA2 := zaa.mk hI
   clear hI hi2 hB
   go_wp2_with fail
   go_ret
   exact ⟨by rw [← HA2.out]; rfl, HB.out⟩
theorem zgU (A0 : Option Addr) (c0 : Nat) (l0 : List (S33)) (hl : l0.length < 4398046511104) (B0 : Option Addr) (d0 : Nat) (ls : List (S33)) (hls : ls.length < 4398046511104) (p : Nat) (w : World) (hp : w.heap[p]? = some (.cells #[.slice B0 ls.length d0] 29 (0, 0))) (hrs : Kd.C k33 w B0 ls.length ls) (hr0 : Kd.C k33 w A0 l0.length l0) :
  Calls Try.prog 64 #[.slice A0 l0.length c0, .func (.func 65) #[] #[.pointer (some ⟨p, 0, none⟩)]] w fun e w' => e = .returned (.bool (l0.any (fun x => !hasM ls x))) ∧ Below w.heap.size w w' := by
 have HI := zaa.mk (zf6 A0 c0 l0 hl B0 d0 ls hls p w hp hrs hr0)
 rw [← zek (fun x => !hasM ls x) l0 0]
 obtain ⟨r, hr⟩ : ∃ r, r = idxP (fun x => !hasM ls x) l0 0 := ⟨_, rfl⟩
 rw [← hr] at HI ⊢
 clear hr0 hr
 go_enter Try.func64, Try.ntmps64
 go_wp2_with fail
 refine HI.out.mono ?_
 rintro e w1 ⟨rfl, hb⟩
 have HB := zaa.mk hb
 clear HI hb
 go_wp2_with fail
 go_ret
 exact ⟨rfl, HB.out⟩
end Go.Proofs.YtinkbljjpafadaaTab
end

section
namespace Go.Proofs.YtinkbljjpafadaaTab
open Go.RowKit Go.Proofs.Ytinkbljjpafadaa.PAll Go.Proofs.YtinkbljjpafadaaW.PrintWords Go.Proofs.YtinkbljjpafadaaW.PrintLast Go.Proofs.YtinkbljjpafadaaRF Go.Proofs.YtinkbljjpafadaaRG
attribute [local go_sem] Oper.semAt_some
theorem zlM : (Try.prog.info? 29).map (fun i => (i.zero, i.size, i.bytes)) = some (some (.slice none 0 0), 1, 24) := by kernel_rfl
theorem zkY : (Try.prog.info? 33).map (fun i => (i.zero, i.size, i.bytes)) = some (some (.agg #[(.string ⟨#[]⟩), (.int .i64 0)]), 2, 24) := by kernel_rfl
def zcJ (ms : List (S33)) (ls : List (List (S33))) : List (S33) := ms.filter fun m => !ls.any fun l => !hasM l m
theorem zhh (ms : List (S33)) (ls : List (List (S33))) (i : Nat) (m : S33) (h : ms[i]? = some m) : zcJ (ms.take (i + 1)) ls = zcJ (ms.take i) ls ++ if (!ls.any fun l => !hasM l m) = true then [m] else [] := by
 unfold zcJ
 rw [List.take_add_one, h, List.filter_append]
 by_cases hm : (!ls.any fun l => !hasM l m) = true
 ·
  rw [if_pos hm]; simp only [Option.toList_some, List.filter_cons, hm, if_true, List.filter_nil]
 ·
  rw [if_neg hm]; simp only [Option.toList_some, List.filter_cons, if_neg hm, List.filter_nil]
theorem zfl (ms : List (S33)) (ls : List (List (S33))) : (zcJ ms ls).length ≤ ms.length := List.length_filter_le _ _
theorem zhi (A0 : Option Addr) (c0 : Nat) (t : List (S64)) (b c : Int) (s : ByteArray) (A1 : Option Addr) (c1 : Nat) (l1 : List (S35)) (cs : List ByteArray) (ls : List (List (S33))) (ms : List (S33)) (w : World)
  (hcl : ∀ w', Below w.heap.size w w' → Calls Try.prog 31 #[.string s, .slice A1 l1.length c1] w' fun e w'' => ∃ v, e = .returned v ∧ Kd.R Kd.string 9 w'' w'.heap.size (fun _ => True) v cs ∧ Below w'.heap.size w' w'')
  (hmem : ∀ i : Nat, i < cs.length → ∀ w', Below w.heap.size w w' → Calls Try.prog 28 #[.slice A0 t.length c0, .string (rdOf ByteArray.empty cs (i : Int))] w' fun e w'' => ∃ v, e = .returned v ∧ Kd.R k33 33 w'' w'.heap.size (fun _ => True) v (ls.getD i []) ∧ Below w'.heap.size w' w'')
  (hms : ∀ w', Below w.heap.size w w' → Calls Try.prog 28 #[.slice A0 t.length c0, .string s] w' fun e w'' => ∃ v, e = .returned v ∧ Kd.R k33 33 w'' w'.heap.size (fun _ => True) v ms ∧ Below w'.heap.size w' w'')
  (hll : ls.length = cs.length) (hc : cs.length < 2199023255552) (hl : ∀ x ∈ ls, x.length < 2199023255552) (hm : ms.length < 2199023255552) :
  Calls Try.prog 8 #[.slice A0 t.length c0, .agg #[.int .i64 7, .int .i64 b, .int .u64 c, .string s, .slice A1 l1.length c1]] w fun e w' => ∃ v, e = .returned v ∧ Kd.R k33 33 w' w.heap.size (fun _ => True) v (zcJ ms ls) ∧ Below w.heap.size w w' := by
 have hu27 := Try.underlying27
 have hu := Try.underlying33
 obtain ⟨w1, hw1⟩ : ∃ w1, w1 = w.alloc (.cells #[.int .i64 7, .int .i64 b, .int .u64 c, .string s, .slice A1 l1.length c1] 27) := ⟨_, rfl⟩
 have hb1 : Below w.heap.size w w1 := by rw [hw1]; exact (Below.refl _ _).alloc (Nat.le_refl _) _
 have hv : w1.heap[w.heap.size]? = some (.cells #[.int .i64 7, .int .i64 b, .int .u64 c, .string s, .slice A1 l1.length c1] 27 (0, 0)) := by rw [hw1]; exact at_new _ _ rfl
 have v0r := zad hv 0
 have v3r := zad hv 3
 have v4r := zad hv 4
 simp only [List.getElem?_toArray, List.getElem?_cons_zero, List.getElem?_cons_succ] at v0r v3r v4r
 have V3 := zaa.mk v3r
 rw [hw1] at v0r v3r v4r
 have HCL := zaa.mk (hcl w1 hb1)
 have HMM := zaa.mk hmem
 have HMS := zaa.mk hms
 have HB1 := zaa.mk hb1
 have HW1 := zaa.mk hw1
 have HLL := zaa.mk (And.intro hll hl)
 have HV := zaa.mk hv
 clear hcl hmem hms hb1 hw1 hl hv hll
 go_enter Try.func8, Try.ntmps8
 go_wp2_with fail
 rw [← HW1.out]
 refine HCL.out.mono ?_
 rintro e w2 ⟨v, rfl, hR2, hb2⟩
 obtain ⟨A2, c2, rfl, hc2, hC2⟩ := Kd.zb4 hR2
 have HB2 := zaa.mk (HB1.out.trans (hb2.mono HB1.out.size))
 have V32 := zaa.mk ((hb2.cell (block_lt_of_cell V3.out)).trans V3.out)
 have HC2 := zaa.mk hC2
 clear hR2 hb2 hc2 hC2 HCL v0r v3r v4r
 go_wp2_with fail
 go_loopw [6, 21] (fun v6 v21 wr => ∃ i : Nat, i ≤ cs.length ∧ v21 = .int .i64 i ∧ zaa (Kd.S (Kd.slice 33 k33) 29 wr w2.heap.size (fun _ => True) v6 (ls.take i) ∧ Below w2.heap.size w2 wr)) (fun _ v21 _ => cs.length - (intOf v21).toNat)
 case atStart => exact ⟨0, Nat.zero_le _, rfl, ⟨Kd.S_nil _ _ _ _ _, Below.refl _ _⟩⟩
 case round =>
  obtain ⟨i, hi, rfl, HI⟩ := hrel
  by_cases hlt : i < cs.length
  ·
   obtain ⟨ad, hA, x0⟩ := Kd.zeF (Kd.zat HC2.out HI.out.2) (i : Int) o9 o9
   rw [Int.toNat_natCast] at x0
   subst hA
   have HM := zaa.mk (HMM.out i hlt _ (HB2.out.trans (HI.out.2.mono HB2.out.size)))
   obtain ⟨x, hx⟩ : ∃ x, x = rdOf ByteArray.empty cs (i : Int) := ⟨_, rfl⟩
   rw [← hx] at HM x0
   clear hx
   have hil : i < ls.length := by rw [HLL.out.1]; exact hlt
   obtain ⟨m, hmm⟩ : ∃ m, m = ls.getD i [] := ⟨_, rfl⟩
   rw [← hmm] at HM
   have hmi : ls[i]? = some m := by rw [hmm, List.getD_eq_getElem?_getD, List.getElem?_eq_getElem hil]; rfl
   have htk : ls.take (i + 1) = ls.take i ++ [m] := by rw [List.take_add_one, hmi]; rfl
   have hlen : (ls.take i).length = i := by rw [List.length_take]; omega
   obtain ⟨pre, hpre⟩ : ∃ pre, pre = ls.take i := ⟨_, rfl⟩
   rw [← hpre] at htk hlen HI
   have HTK := zaa.mk htk
   have HLEN := zaa.mk hlen
   obtain ⟨A6, c6, hv6⟩ := Kd.zgT HI.out.1
   subst hv6
   clear hmm hmi htk hlen hpre
   have i0 : (0 : Int) ≤ (i : Int) := by omega
   have i1 : (i : Int) < (cs.length : Int) := by omega
   go_wp2_with fail
   refine HM.out.mono ?_
   rintro e w3 ⟨v3, rfl, hR3, hb3⟩
   obtain ⟨A5, c5, hv3⟩ := Kd.zbj hR3
   subst hv3
   have hS3 := Kd.zfW (v := .slice A5 m.length c5) HI.out.1 (fun k hk => Kd.zci hR3 k hk) hb3
   have hR3' := Kd.zbi (base' := w2.heap.size) hR3 HI.out.2.size
   have hB3 : Below w2.heap.size w2 w3 := HI.out.2.trans (hb3.mono HI.out.2.size)
   have HH := zaa.mk (And.intro hS3 (And.intro hR3' hB3))
   clear hR3 hb3 hS3 hR3' hB3 HM HI
   go_wp2_with ((with_reducible refine zbS (b := .append) (xs := #[.tmp 25, .tmp 29]) rfl ?_); at_builtin; refine Kd.zhv (Kd.slice 33 k33) (w0 := w2) w2.heap.size rfl (.tmp 25) (.tmp 29) 67 29 (.slice none 0 0) 24 rfl Try.underlying67 zlM rfl (Nat.le_refl 1) o9 (.slice A6 pre.length c6) pre m [.slice A5 m.length c5] (fun _ => True) (fun k_ => some k_ = (Value.slice A5 m.length c5).ownBlock) rfl rfl ?aP ?aQ (fun _ _ => trivial) HH.out.1 HH.out.2.2 HH.out.2.2.size ?aL ?_; (case aP => exact ⟨_, rfl, Kd.za0 (Kd.zeP rfl HH.out.2.1) (fun _ h_ => h_)⟩); (case aQ => exact fun k_ hk_ => ⟨trivial, fun e_ => by obtain ⟨cs1, hc1⟩ := Kd.zeO HH.out.1 k_ e_.symm; obtain ⟨cs2, hc2⟩ := Kd.zd7 HH.out.2.1 k_ hk_.symm; rw [hc1] at hc2; cases hc2⟩); (case aL => have := HLEN.out; omega); intro v6 w6 hS6 hB6 hg6 _; have HS6 := zaa.mk hS6; have HB6 := zaa.mk hB6; clear hS6 hB6 hg6)
   go_roundw
   case rel => exact ⟨i + 1, by omega, by go_num, ⟨by rw [HTK.out]; exact HS6.out, HB6.out⟩⟩
   case measure => simp [intOf]; omega
  ·
   have hi2 : i = cs.length := by omega
   have hlen : ls.take i = ls := by rw [hi2, ← HLL.out.1, List.take_length]
   have HS := zaa.mk (by rw [hlen] at HI; exact HI.out.1 : Kd.S (Kd.slice 33 k33) 29 _ w2.heap.size (fun _ => True) _ ls)
   have HBr := zaa.mk (HB2.out.trans (HI.out.2.mono HB2.out.size))
   have V33 := zaa.mk ((HI.out.2.cell (block_lt_of_cell V32.out)).trans V32.out)
   have v3r := V33.out
   have HM := zaa.mk (HMS.out _ HBr.out)
   obtain ⟨A6, c6, rfl, hc6, hC6⟩ := Kd.zkX HS.out
   have HC6 := zaa.mk hC6
   have hd : decide ((i : Int) < (cs.length : Int)) = false := by simp; omega
   clear hi2 hlen HI hC6 hc6 HS
   go_wp2_with fail
   refine HM.out.mono ?_
   rintro e w3 ⟨v3, rfl, hR3, hb3⟩
   obtain ⟨A5, c5, rfl, hc5, hC5⟩ := Kd.zb4 hR3
   have HB3 := zaa.mk (HBr.out.trans (hb3.mono HBr.out.size))
   have HC5 := zaa.mk hC5
   have HC63 := zaa.mk (Kd.zat HC6.out hb3)
   clear hR3 hb3 hc5 hC5 HM HC6 v3r
   have HS3 := zaa.mk (show w.heap.size ≤ w3.heap.size from HB3.out.size)
   go_wp2_with fail
   go_loopw [4, 37] (fun v4 v37 wr => ∃ j : Nat, j ≤ ms.length ∧ v37 = .int .i64 j ∧ zaa (Kd.R k33 33 wr w3.heap.size (fun _ => True) v4 (zcJ (ms.take j) ls) ∧ Below w3.heap.size w3 wr)) (fun _ v37 _ => ms.length - (intOf v37).toNat)
   case atStart => exact ⟨0, Nat.zero_le _, rfl, ⟨Kd.R_nil _ _ _ _ _, Below.refl _ _⟩⟩
   case round =>
    obtain ⟨j, hj, rfl, HJ⟩ := hrel
    by_cases hlj : j < ms.length
    ·
     obtain ⟨adm, hAm, m0, m1⟩ := zdN (Kd.zat HC5.out HJ.out.2) (j : Int) o9 o9
     rw [Int.toNat_natCast] at m0 m1
     subst hAm
     obtain ⟨m, hmm⟩ : ∃ m, m = zbH ms (j : Int) := ⟨_, rfl⟩
     rw [← hmm] at m0 m1
     have hmi : ms[j]? = some m := by
      rw [hmm]; unfold zbH
      rw [Int.toNat_natCast, List.getD_eq_getElem?_getD, List.getElem?_eq_getElem hlj]; rfl
     have SN := zaa.mk (zhh ms ls j m hmi)
     have hlo := zfl (ms.take j) ls
     have hlo2 : (ms.take j).length ≤ j := by rw [List.length_take]; omega
     obtain ⟨out, hout⟩ : ∃ out, out = zcJ (ms.take j) ls := ⟨_, rfl⟩
     rw [← hout] at SN hlo HJ
     have HLO := zaa.mk (show out.length ≤ j from Nat.le_trans hlo hlo2)
     obtain ⟨r, hr⟩ : ∃ r, r = ls.any fun l => !hasM l m := ⟨_, rfl⟩
     rw [← hr] at SN
     have HRR := zaa.mk hr
     obtain ⟨W0, hW0⟩ : ∃ W0, W0 = wr.alloc (.cells #[.string m.f0, .int .i64 m.f1] 33) := ⟨_, rfl⟩
     have hn0 : W0.heap[wr.heap.size]? = some (.cells #[.string m.f0, .int .i64 m.f1] 33 (0, 0)) := by rw [hW0]; exact at_new _ _ rfl
     have hbW : Below wr.heap.size wr W0 := by rw [hW0]; exact (Below.refl _ _).alloc (Nat.le_refl _) _
     have HN0 := zaa.mk hn0
     have HBW := zaa.mk (HJ.out.2.trans (hbW.mono HJ.out.2.size))
     have HR0 := zaa.mk (Kd.zbC HJ.out.1 hbW)
     have HW0 := zaa.mk hW0
     have HHC := zaa.mk (zg3 A6 c6 ls (by rw [HLL.out.1]; omega) (fun x hx => by have := HLL.out.2 x hx; omega) m wr.heap.size W0 hn0 (Kd.zat HC63.out HBW.out))
     obtain ⟨A7, c7, hv7⟩ := Kd.zbj HJ.out.1
     subst hv7
     have hmf : ∀ (fn : Fn) (first cap : Array Value) (w : World), (Instr.makeFunc fn first cap).run Try.prog w = .ok (.func fn first cap) w := fun _ _ _ _ => rfl
     have j0 : (0 : Int) ≤ (j : Int) := by omega
     have j1 : (j : Int) < (ms.length : Int) := by omega
     clear hmm hmi hlo hlo2 hout hr hn0 hbW hW0 HJ
     go_wp2_with fail
     rw [← HW0.out]
     refine HHC.out.mono ?_
     rw [← HRR.out]
     rintro e w5 ⟨rfl, hb5⟩
     have hn5 := (hb5.block _ (zai HN0.out)).trans HN0.out
     have y0 := zad hn5 0
     have y1 := zad hn5 1
     simp only [List.getElem?_toArray, List.getElem?_cons_zero, List.getElem?_cons_succ] at y0 y1
     have HR5 := zaa.mk (Kd.zbC HR0.out hb5)
     have HB5 := zaa.mk (HBW.out.trans (hb5.mono HBW.out.size))
     clear hb5 hn5 HHC HR0 HBW HN0
     cases r with
     | true =>
      have SN2 := zaa.mk (SN.out.trans (by simp : _ = out))
      clear SN y0 y1
      go_wp2_with fail
      go_roundw
      case rel => exact ⟨j + 1, by omega, by go_num, ⟨by rw [SN2.out]; exact HR5.out, HB5.out⟩⟩
      case measure => simp [intOf]; omega
     | false =>
      have SN2 := zaa.mk (SN.out.trans (by simp : _ = out ++ [m]))
      clear SN
      go_wp2_with ((with_reducible refine zbS (b := .append) (xs := #[.tmp 45, .tmp 47]) rfl ?_); at_builtin; refine Kd.zdm k33 (w0 := w3) w3.heap.size rfl (.tmp 45) (.tmp 47) 29 33 (.agg #[(.string ⟨#[]⟩), (.int .i64 0)]) 24 rfl Try.underlying29 zkY rfl d9 o9 (.slice A7 out.length c7) out m [.string m.f0, .int .i64 m.f1] (fun _ => True) (fun _ => False) rfl rfl (zd9 _ _ _ m) (fun _ hk => hk.elim) (fun _ _ => trivial) HR5.out HB5.out HB5.out.size ?aL ?_; (case aL => have := HLO.out; omega); intro v6 w6 hS6 hB6 _ _; have HS6 := zaa.mk hS6; have HB6 := zaa.mk hB6; clear hS6 hB6)
      go_roundw
      case rel => exact ⟨j + 1, by omega, by go_num, ⟨by rw [SN2.out]; exact HS6.out, HB6.out⟩⟩
      case measure => simp [intOf]; omega
    ·
     have hj2 : j = ms.length := by omega
     have hlen : ms.take j = ms := by rw [hj2, List.take_length]
     rw [hlen] at HJ
     have hd2 : decide ((j : Int) < (ms.length : Int)) = false := by simp; omega
     clear hj2 hlen
     go_wp2_with fail
     go_ret
     exact ⟨_, rfl, Kd.zbi HJ.out.1 HS3.out, HB3.out.trans (HJ.out.2.mono HS3.out)⟩
end Go.Proofs.YtinkbljjpafadaaTab
end

section
namespace Go.Proofs.YtinkbljjpafadaaRF
open Go.RowKit Go.Proofs.YtinkbljjpafadaaW.PrintWords Go.Proofs.YtinkbljjpafadaaW.PrintLast Go.Proofs.YtinkbljjpafadaaRG
section
variable {F : Fence} {n : Nat} {P : Program} {ops : Array Oper} {rest : List Oper} {o : Oper} {a : Act} {Q : Exit → Act → World → Prop} {α : Type}
theorem zd5 (enc : α → Value) {h1c : ∀ x, (enc x).oneCell' = true} (W : World) (hgd : o.guard = none) (s x : Operand) (t e : TypeId) (z : Value) (bytes : Nat)
  (ho : o.op = .call { callee := .builtin .append, args := #[s, x], argTypes := #[t, t] })
  (ht : P.underlying t = some (.slice e)) (hinfo : (P.info? e).map (fun i => (i.zero, i.size, i.bytes)) = some (some z, 1, bytes)) (hz : z.cells.size = 1) (hb0 : 0 < bytes)
  (base : Nat) (ok : Nat → Prop) (v : Value) (xs : List α) (p : α) (g c : Nat) (hs : a.eval s = v) (hx : a.eval x = .slice (some ⟨g, 0, none⟩) 1 c) (hg : W.cell? ⟨g, 0, none⟩ = some (enc p))
  (HO : (Kd.scalar enc h1c).R e W base ok v xs) (hbase : base ≤ W.heap.size) (hl : (xs.length + 1) * bytes ≤ 140737488355328)
  (h : ∀ v1 w1, (Kd.scalar enc h1c).R e w1 base (fun k => ok k ∨ W.heap.size ≤ k) v1 (xs ++ [p]) → W.grownBy w1 v.ownBlock → wpListIn F n P ops Q rest (a.put o.dst v1) w1) :
  wpListIn F n P ops Q (o :: rest) a W := by
 obtain ⟨i0, hi, hzz⟩ := Option.map_eq_some_iff.1 hinfo
 simp only [Prod.mk.injEq] at hzz
 obtain ⟨hz0, hz1, hz2⟩ := hzz
 have hlen : xs.length + 1 ≤ 140737488355328 := Nat.le_trans (Nat.le_mul_of_pos_right _ hb0) hl
 have hown := Kd.zf4 HO
 obtain ⟨v1, w1, hrun, r1, r2, _, hat⟩ := run_append_own_at (P := P) W base t o.type e i0 z 1 bytes ht hi hz0 hz1 hz2 hz o9 v xs.length (encs enc xs) hown ⟨g, 0, none⟩ 1 c [enc p] rfl
  (fun j u hj => by
   cases j with
   | zero => simp only [List.getElem?_cons_zero, Option.some.injEq] at hj; subst hj; exact hg
   | succ j => simp at hj)
  (fun u hu => by rw [List.mem_singleton.1 hu]; exact h1c p) (by simp only [maxLen]; omega) hl hbase
 refine wpListIn_plain hgd fun K hK' => ?_
 unfold Oper.wpIn
 refine ⟨?_, ?_⟩
 ·
  simp [Oper.about, ho, resolve, Target.leads, Sem.run_pure]
 ·
  rw [Oper.semAt_plain F _ _ (by rw [ho]; intro c hc'; cases hc')]
  simp [execOp, ho, resolve, invoke, builtin, hs, hx, hrun, Result.andThen]
  refine hK' _ _ (h v1 w1 (Kd.zfM ?_ (fun k hk => ?_)) r2)
  ·
   rw [List.length_append]
   have he : encs enc (xs ++ [p]) = encs enc xs ++ [enc p] := by simp [encs]
   rw [he]; exact r1
  ·
   rcases hat with e1 | e1
   ·
    exact .inl (HO.1 k (by rw [← e1]; exact hk))
   ·
    rw [e1] at hk
    injection hk with hk
    right; omega
end
structure OutI {α : Type} (enc : α → Value) (h1 : ∀ x, (enc x).oneCell' = true) (T e n₀ : Nat) (w0 : World) (Bo : Nat) (pre : List α) (O : Nat → Prop) (W : World) : Prop where
 box : ∃ v, Mine Bo (.cells #[v] T (0, 0)) O W ∧ (Kd.scalar enc h1).R e W n₀ (fun k => ¬ O k) v pre
 bl : Below n₀ w0 W
 lo : ∀ k, O k → n₀ ≤ k
theorem OutI.stable {α : Type} (enc : α → Value) (h1 : ∀ x, (enc x).oneCell' = true) (T e n₀ : Nat) (w0 : World) (hn : n₀ ≤ w0.heap.size) (Bo : Nat) : Stable (OutI enc h1 T e n₀ w0 Bo) := fun s O O' W W' h hm h1' h2 => by
 obtain ⟨v, hb, hr⟩ := h.box
 have hst : Mine Bo (.cells #[v] T (0, 0)) O' W' := Mine.stable (β := Unit) (fun _ => _) (fun _ => _) () O O' W W' hb hm h1' h2
 refine ⟨⟨v, hst, ?_⟩, h.bl.trans (hm.below (Nat.le_trans hn h.bl.size) h.lo), fun k hk => (h2 k hk).elim (h.lo k) (fun x => by have := h.bl.size; omega)⟩
 refine Kd.za0 (Kd.zbB (Kd.zcv (ok := fun k => ¬ O k ∧ k < W.heap.size) (Kd.za0 (Kd.zbB hr) (fun k hk => ⟨hk.1, hk.2.2.1⟩)) (fun k hk hl => hm.block k hl hk.1))) (fun k hk => ?_)
 exact fun e => (h2 k e).elim hk.1.1 (fun x => by have := hk.1.2; omega)
theorem OutI.put {α : Type} {enc : α → Value} {h1 : ∀ x, (enc x).oneCell' = true} {T e n₀ : Nat} {w0 : World} {Bo : Nat} {pre : List α} {x : α} {O : Nat → Prop} {W W4 w1 : World} {v v1 : Value} (hTe : e ≠ T) (hn : n₀ ≤ w0.heap.size) (hB : n₀ ≤ Bo)
  (hl : ∀ k, O k → k < W.heap.size) (hm : Mine Bo (.cells #[v] T (0, 0)) O W) (hr : (Kd.scalar enc h1).R e W n₀ (fun k => ¬ O k) v pre) (hb : Below n₀ w0 W) (hlo : ∀ k, O k → n₀ ≤ k)
  (hmv : Mv (fun _ => False) W W4) (hr1 : (Kd.scalar enc h1).R e w1 n₀ (fun k => ¬ O k ∨ W4.heap.size ≤ k) v1 (pre ++ [x])) (hg : W4.grownBy w1 v.ownBlock) :
  Mv (fun k => ¬ (O k ∨ k < n₀)) W (w1.setCell ⟨Bo, 0, none⟩ v1) ∧ OutI enc h1 T e n₀ w0 Bo (pre ++ [x]) O (w1.setCell ⟨Bo, 0, none⟩ v1) := by
 have hrow : ∀ k, v.ownBlock = some k → ¬ O k ∧ n₀ ≤ k := fun k hk => by
  have := (Kd.zbB hr).1 k hk
  exact ⟨this.1, this.2.1⟩
 have hmv1 : Mv (fun k => ¬ (O k ∨ k < n₀)) W W4 := hmv.mono (fun _ _ h => h.elim)
 have hmv2 := hmv1.grown hg (fun k e => .inl (fun h => h.elim (hrow k e).1 (fun h => by have := (hrow k e).2; omega)))
 have hBo4 := hmv.at hm.1 (fun h => h)
 have hne : some Bo ≠ v.ownBlock := Kd.R_ne hr hm.1 hTe
 have hBo1 : w1.heap[Bo]? = some (.cells #[v] T (0, 0)) := (hg.block Bo (zai hBo4) hne).trans hBo4
 have hmv3 := hmv2.setCell (p := ⟨Bo, 0, none⟩) (.inl (fun h => h.elim hm.2 (fun h => by simp at h; omega))) v1
 refine ⟨hmv3, ⟨v1, ⟨by simpa using zcK hBo1 0 v1, hm.2⟩, ?_⟩, hb.trans (hmv3.below (Nat.le_trans hn hb.size) (fun k h => Nat.not_lt.1 (fun h' => h (.inr h')))), hlo⟩
 refine Kd.R_set (Kd.za0 hr1 (fun k hk => ?_)) hBo1 (fun q hq => ?_) 0 v1
 ·
  rcases hk with hk | hk
  ·
   exact hk
  ·
   exact fun h => by have := hl k h; have := hmv.size; omega
 ·
  simp [Kd.scalar] at hq
  rw [hq]; exact hTe
theorem zcZ {P : Program} {fn : Func} {p : Tmp} {ty : TypeId} (h : fn.results = #[.cell p ty]) (tmps : Array Value) (w : World) (g : Nat) (t : TypeId) (v : Value) (e : TypeId)
  (hp : tmps.getD p undef = .pointer (some ⟨g, 0, none⟩)) (hg : w.heap[g]? = some (.cells #[v] t (0, 0))) (hu : P.underlying ty = some (.slice e)) : (results fn tmps).run P w = .ok v w := by
 have hp' : tmps[p]?.getD undef = .pointer (some ⟨g, 0, none⟩) := by simpa using hp
 have hc := zad hg 0
 simp only [List.getElem?_toArray, List.getElem?_cons_zero] at hc
 have ha : (isAgg ty).run P w = .ok false w := by simp [isAgg, go_sem, run_underlying hu]
 simp [results, h, hp', asAddr, go_sem, hu, hc, ha]
def coll (ds : List Nat) : List Deferred := ds.map fun D => { target := .collected D, args := #[] }
def Idle (ds : List Nat) (w : World) : Prop := ds.Nodup ∧ ∀ D ∈ ds, w.heap[D]? = some (.deferred (some []))
def ziP : List Nat → World → World
 | [], w => w
 | D :: ds, w => ziP ds (w.putObj D (.deferred none))
theorem zdV {F : Fence} {n : Nat} {P : Program} {fn : Func} {tmps : Array Value} {R : Ending → World → Prop} : ∀ (ds : List Nat) (w : World), Idle ds w → LeavesInM F n P fn tmps R [] .returning (ziP ds w) → LeavesInM F n P fn tmps R (coll ds) .returning w
 | [], w, _, h => h
 | D :: ds, w, hi, h => by
  refine ⟨by simp, .inl ⟨D, _, rfl, run_takeDeferred (hi.2 D List.mem_cons_self), zdV ds _ ?_ h⟩⟩
  have hn := List.nodup_cons.1 hi.1
  exact ⟨hn.2, fun E hE => (World.putObj_heap_other (fun e : E = D => hn.1 (e ▸ hE))).trans (hi.2 E (List.mem_cons_of_mem _ hE))⟩
end Go.Proofs.YtinkbljjpafadaaRF
end

section
namespace Go.Proofs.YtinkbljjpafadaaTab
open Go.RowKit Go.Proofs.Ytinkbljjpafadaa.PAll Go.Proofs.YtinkbljjpafadaaW.PrintWords Go.Proofs.YtinkbljjpafadaaW.PrintLast Go.Proofs.YtinkbljjpafadaaRF Go.Proofs.YtinkbljjpafadaaRG
attribute [local go_sem] Oper.semAt_some
abbrev Val := Int × Int × Int × ByteArray × List (S35)
def Ent (label : Int) (w : World) (o : Option Val) (e : Ending) (w' : World) : Prop :=
 match o with
 | some (a, b, c, s, l) => ∃ v, e = .returned (.agg #[.int .i64 a, .int .i64 b, .int .u64 c, .string s, v]) ∧ Kd.R k35 35 w' w.heap.size (fun _ => True) v l ∧ Below w.heap.size w w'
 | none => e = .panicked [{ v := .iface 113 (.agg #[.int .i64 label]), recovered := false }] ∧ Below w.heap.size w w'
def zgk {α : Type} (d : Kd α) (e : Nat) (f : Nat) (args : Array Value) (xs : List α) (w : World) : Prop :=
 ∀ w', Below w.heap.size w w' → Calls Try.prog f args w' fun en w'' => ∃ v, en = .returned v ∧ d.R e w'' w'.heap.size (fun _ => True) v xs ∧ Below w'.heap.size w' w''
def zkA (f : Nat) (args : Array Value) (r : Value) (w : World) : Prop :=
 ∀ w', Below w.heap.size w w' → Calls Try.prog f args w' fun en w'' => en = .returned r ∧ Below w'.heap.size w' w''
theorem cells5 {w : World} {g t : Nat} {a b c : Int} {s : ByteArray} {v : Value} (h : w.heap[g]? = some (.cells #[.int .i64 a, .int .i64 b, .int .u64 c, .string s, v] t (0, 0))) :
  w.cell? ⟨g, 0, none⟩ = some (.int .i64 a) ∧ w.cell? ⟨g, 1, none⟩ = some (.int .i64 b) ∧ w.cell? ⟨g, 2, none⟩ = some (.int .u64 c) ∧ w.cell? ⟨g, 3, none⟩ = some (.string s) ∧ w.cell? ⟨g, 4, none⟩ = some v := by
 have h0 := zad h 0
 have h1 := zad h 1
 have h2 := zad h 2
 have h3 := zad h 3
 have h4 := zad h 4
 simp only [List.getElem?_toArray, List.getElem?_cons_zero, List.getElem?_cons_succ] at h0 h1 h2 h3 h4
 exact ⟨h0, h1, h2, h3, h4⟩
def EntK (A0 : Option Addr) (c0 : Nat) (t : List (S64)) (merged : Bool) (label : Int) (a b c : Int) (s : ByteArray) (A1 : Option Addr) (c1 : Nat) (l1 : List (S35)) (ty : ByteArray) (tag kd : Int) (o : Option Val) (w : World) : Prop :=
 (kd = 2 ∧ o = some (a, b, c, s, l1)) ∨ (kd = 1 ∧ a = tag ∧ o = some (a, b, c, s, l1)) ∨ (kd = 1 ∧ a ≠ tag ∧ o = none) ∨ (kd = 3 ∧ a = 6 ∧ o = some (a, b, c, s, l1)) ∨
 (kd = 3 ∧ a ≠ 6 ∧ a ≠ 7 ∧ o = none ∧ ∃ sh : List (S33), zgk k33 33 8 #[.slice A0 t.length c0, .agg #[.int .i64 a, .int .i64 b, .int .u64 c, .string s, .slice A1 l1.length c1]] sh w) ∨
 (kd = 3 ∧ a = 7 ∧ ∃ (sh ms : List (S33)), zgk k33 33 8 #[.slice A0 t.length c0, .agg #[.int .i64 a, .int .i64 b, .int .u64 c, .string s, .slice A1 l1.length c1]] sh w ∧ zgk k33 33 28 #[.slice A0 t.length c0, .string ty] ms w ∧ sh.length < 4398046511104 ∧ ms.length < 4398046511104 ∧
  (((ms.any fun x => !hasM sh x) = true ∧ o = none) ∨ ((ms.any fun x => !hasM sh x) = false ∧ o.isSome = true ∧ ∀ w', Below w.heap.size w w' → Calls Try.prog 53 #[.agg #[.slice A0 t.length c0, .bool merged, .int .i64 label], .agg #[.int .i64 a, .int .i64 b, .int .u64 c, .string s, .slice A1 l1.length c1], .bool true, .string ty] w' (Ent label w' o)))) ∨
 (kd ≠ 1 ∧ kd ≠ 2 ∧ kd ≠ 3 ∧ o = none)
theorem zgh (A0 : Option Addr) (c0 : Nat) (t : List (S64)) (merged : Bool) (label : Int) (a b c : Int) (s : ByteArray) (A1 : Option Addr) (c1 : Nat) (l1 : List (S35)) (ty : ByteArray) (tag tis kd : Int) (o : Option Val) (w : World)
  (hcl : zgk k35 35 52 #[.slice A1 l1.length c1] l1 w)
  (htag : zkA 44 #[.string ty] (.tuple #[.int .i64 tag, .int .i64 tis]) w)
  (hkind : zkA 51 #[.string ty] (.int .i64 kd) w) (hk : EntK A0 c0 t merged label a b c s A1 c1 l1 ty tag kd o w) :
  Calls Try.prog 47 #[.agg #[.slice A0 t.length c0, .bool merged, .int .i64 label], .agg #[.int .i64 a, .int .i64 b, .int .u64 c, .string s, .slice A1 l1.length c1], .string ty] w (Ent label w o) := by
 have hu27 := Try.underlying27
 have hu73 := Try.underlying73
 obtain ⟨W3, hW3⟩ : ∃ W3, W3 = ((w.alloc (.cells #[.slice A0 t.length c0, .bool merged, .int .i64 label] 73)).alloc (.cells #[.int .i64 a, .int .i64 b, .int .u64 c, .string s, .slice A1 l1.length c1] 27)).alloc (.cells #[.int .i64 0, .int .i64 0, .int .u64 0, .string ⟨#[]⟩, .slice none 0 0] 27) := ⟨_, rfl⟩
 obtain ⟨W4, hW4⟩ : ∃ W4, W4 = W3.alloc (.cells #[.int .i64 a, .int .i64 b, .int .u64 c, .string s, .slice A1 l1.length c1] 27) := ⟨_, rfl⟩
 have hb3 : Below w.heap.size w W3 := by rw [hW3]; exact (((Below.refl _ _).alloc (Nat.le_refl _) _).alloc s9 _).alloc (by simp; omega) _
 have hb4 : Below w.heap.size w W4 := by rw [hW4]; exact hb3.alloc hb3.size _
 have hs3 : W3.heap.size = w.heap.size + 3 := by rw [hW3]; simp
 have k0 : W3.heap[w.heap.size]? = some (.cells #[.slice A0 t.length c0, .bool merged, .int .i64 label] 73 (0, 0)) := by rw [hW3]; exact zal (zal (at_new _ _ rfl) _) _
 have k1 : W3.heap[w.heap.size + 1]? = some (.cells #[.int .i64 a, .int .i64 b, .int .u64 c, .string s, .slice A1 l1.length c1] 27 (0, 0)) := by rw [hW3]; exact zal (at_new _ _ s9) _
 have k2 : W3.heap[w.heap.size + 1 + 1]? = some (.cells #[.int .i64 0, .int .i64 0, .int .u64 0, .string ⟨#[]⟩, .slice none 0 0] 27 (0, 0)) := by rw [hW3]; exact at_new _ _ s9
 have q0 : W4.heap[w.heap.size]? = some (.cells #[.slice A0 t.length c0, .bool merged, .int .i64 label] 73 (0, 0)) := by rw [hW4]; exact zal k0 _
 have q1 : W4.heap[w.heap.size + 1]? = some (.cells #[.int .i64 a, .int .i64 b, .int .u64 c, .string s, .slice A1 l1.length c1] 27 (0, 0)) := by rw [hW4]; exact zal k1 _
 have q2 : W4.heap[w.heap.size + 1 + 1]? = some (.cells #[.int .i64 0, .int .i64 0, .int .u64 0, .string ⟨#[]⟩, .slice none 0 0] 27 (0, 0)) := by rw [hW4]; exact zal k2 _
 have q3 : W4.heap[w.heap.size + 1 + 1 + 1]? = some (.cells #[.int .i64 a, .int .i64 b, .int .u64 c, .string s, .slice A1 l1.length c1] 27 (0, 0)) := by rw [hW4]; exact at_new _ _ o9
 obtain ⟨x0, x1, x2, x3, x4⟩ := cells5 k1
 obtain ⟨y0, y1, y2, y3, y4⟩ := cells5 q1
 rw [hW3] at x0 x1 x2 x3 x4
 rw [hW4, hW3] at y0 y1 y2 y3 y4
 have HCL := zaa.mk (hcl W4 hb4)
 have HTG := zaa.mk htag
 have HKD := zaa.mk hkind
 have HQ := zaa.mk (And.intro q0 (And.intro q1 (And.intro q2 q3)))
 have HB4 := zaa.mk hb4
 have HW4 := zaa.mk (hW4.trans (by rw [hW3] : _ = _))
 have HK := zaa.mk hk
 clear hcl htag hkind k0 k1 k2 q0 q1 q2 q3 hb3 hb4 hs3 hk hW4
 go_enter Try.func47, Try.ntmps47
 go_wp2_with fail
 rw [← HW4.out]
 refine HCL.out.mono ?_
 rintro e w5 ⟨v5, rfl, hR5, hb5⟩
 obtain ⟨A5, c5, hv5⟩ := Kd.zbj hR5
 subst hv5
 have hB5 := HB4.out.trans (hb5.mono HB4.out.size)
 have q0 := (hb5.block _ (zai HQ.out.1)).trans HQ.out.1
 have q1 := (hb5.block _ (zai HQ.out.2.1)).trans HQ.out.2.1
 have q2 := (hb5.block _ (zai HQ.out.2.2.1)).trans HQ.out.2.2.1
 have q3 := (hb5.block _ (zai HQ.out.2.2.2)).trans HQ.out.2.2.2
 obtain ⟨W6, hW6⟩ : ∃ W6, W6 = w5.setCell ⟨w.heap.size + 1 + 1 + 1, 4, none⟩ (.slice A5 l1.length c5) := ⟨_, rfl⟩
 have hlt4 : w.heap.size + 1 + 1 + 1 < W4.heap.size := zai HQ.out.2.2.2
 have r0 : W6.heap[w.heap.size]? = some (.cells #[.slice A0 t.length c0, .bool merged, .int .i64 label] 73 (0, 0)) := by rw [hW6]; exact (Below.heap_setCell _ _ _ _ (show w.heap.size ≠ w.heap.size + 1 + 1 + 1 by omega)).trans q0
 have r1 : W6.heap[w.heap.size + 1]? = some (.cells #[.int .i64 a, .int .i64 b, .int .u64 c, .string s, .slice A1 l1.length c1] 27 (0, 0)) := by rw [hW6]; exact (Below.heap_setCell _ _ _ _ s9).trans q1
 have r2 : W6.heap[w.heap.size + 1 + 1]? = some (.cells #[.int .i64 0, .int .i64 0, .int .u64 0, .string ⟨#[]⟩, .slice none 0 0] 27 (0, 0)) := by rw [hW6]; exact (Below.heap_setCell _ _ _ _ s9).trans q2
 have r3 : W6.heap[w.heap.size + 1 + 1 + 1]? = some (.cells #[.int .i64 a, .int .i64 b, .int .u64 c, .string s, .slice A5 l1.length c5] 27 (0, 0)) := by rw [hW6]; exact zaf q3 4 _ rfl
 have hR6 : Kd.R k35 35 W6 W4.heap.size (fun _ => True) (.slice A5 l1.length c5) l1 := by rw [hW6]; exact Kd.R_set hR5 q3 d9 4 _
 have hB6 : Below w.heap.size w W6 := by rw [hW6]; exact zaR hB5 (show w.heap.size ≤ w.heap.size + 1 + 1 + 1 by omega)
 obtain ⟨_, _, _, _, z4⟩ := cells5 q3
 have fz4 := free_at q3 4
 have HB6 := zaa.mk hB6
 have HR6 := zaa.mk hR6
 have HQ6 := zaa.mk (And.intro r0 (And.intro r1 (And.intro r2 r3)))
 have HW6 := zaa.mk hW6
 have HS4 := zaa.mk HB4.out.size
 have HT6 := zaa.mk (HTG.out W6 hB6)
 clear q0 q1 q2 q3 r0 r1 r2 r3 hb5 hB5 hR5 hR6 hB6 hW6 hlt4 HQ HCL HB4 x0 x1 x2 x3 x4 y0 y1 y2 y3 y4
 go_wp2_with fail
 rw [← HW6.out]
 refine HT6.out.mono ?_
 rintro e w7 ⟨rfl, hb7⟩
 have HB7 := zaa.mk (HB6.out.trans (hb7.mono HB6.out.size))
 have HBB := zaa.mk hb7
 have HT7 := zaa.mk (HKD.out w7 HB7.out)
 clear hb7 HT6 z4 fz4 HTG HKD
 go_wp2_with fail
 refine HT7.out.mono ?_
 rintro e w8 ⟨rfl, hb8⟩
 have hb68 := HBB.out.trans (hb8.mono HBB.out.size)
 have HB8 := zaa.mk (HB6.out.trans (hb68.mono HB6.out.size))
 have r0 := (hb68.block _ (zai HQ6.out.1)).trans HQ6.out.1
 have r1 := (hb68.block _ (zai HQ6.out.2.1)).trans HQ6.out.2.1
 have r2 := (hb68.block _ (zai HQ6.out.2.2.1)).trans HQ6.out.2.2.1
 have r3 := (hb68.block _ (zai HQ6.out.2.2.2)).trans HQ6.out.2.2.2
 have HR8 := zaa.mk (Kd.zbC HR6.out hb68)
 have HQ8 := zaa.mk (And.intro r0 (And.intro r1 (And.intro r2 r3)))
 clear r0 r1 r2 r3 hb8 hb68 HBB HB6 HB7 HT7 HQ6 HR6 HW6
 have HK := HK.out
 unfold EntK at HK
 rcases HK with ⟨hk, ho⟩ | ⟨hk, ha, ho⟩ | ⟨hk, ha, ho⟩ | ⟨hk, ha, ho⟩ | ⟨hk, ha, ha7, ho, sh, hsh⟩ | ⟨hk, ha, sh, ms, hsh, hms, hls, hlm, hx⟩ | ⟨k1, k2, k3, ho⟩
 ·
  subst hk
  subst ho
  obtain ⟨z0, z1, z2, z3, z4⟩ := cells5 HQ8.out.2.2.2
  obtain ⟨p0, p1, p2, p3, p4⟩ := cells5 HQ8.out.2.2.1
  obtain ⟨y0, y1, y2, y3, y4⟩ := cells5 HQ8.out.2.1
  have f0 := free_at HQ8.out.2.2.1 0
  have f1 := free_at HQ8.out.2.2.1 1
  have f2 := free_at HQ8.out.2.2.1 2
  have f3 := free_at HQ8.out.2.2.1 3
  have f4 := free_at HQ8.out.2.2.1 4
  go_wp2_with fail
  have d2 := zaf (zaf (zaf (zaf (zaf HQ8.out.2.2.1 0 (.int .i64 a) rfl) 1 (.int .i64 b) rfl) 2 (.int .u64 c) rfl) 3 (.string s) rfl) 4 (.slice A5 l1.length c5) rfl
  have HR9 := zaa.mk (Kd.R_set (Kd.R_set (Kd.R_set (Kd.R_set (Kd.R_set HR8.out HQ8.out.2.2.1 d9 0 (.int .i64 a)) (zaf HQ8.out.2.2.1 0 (.int .i64 a) rfl) d9 1 (.int .i64 b)) (zaf (zaf HQ8.out.2.2.1 0 (.int .i64 a) rfl) 1 (.int .i64 b) rfl) d9 2 (.int .u64 c)) (zaf (zaf (zaf HQ8.out.2.2.1 0 (.int .i64 a) rfl) 1 (.int .i64 b) rfl) 2 (.int .u64 c) rfl) d9 3 (.string s)) (zaf (zaf (zaf (zaf HQ8.out.2.2.1 0 (.int .i64 a) rfl) 1 (.int .i64 b) rfl) 2 (.int .u64 c) rfl) 3 (.string s) rfl) d9 4 (.slice A5 l1.length c5))
  refine bodyPost_ret (results_cell_row rfl _ _ (w.heap.size + 1 + 1) 27 #[.int .i64 a, .int .i64 b, .int .u64 c, .string s, .slice A5 l1.length c5] (0, 0) _ rfl d2 Try.underlying27 rfl k9) rfl ?_
  exact ⟨_, rfl, Kd.zbi HR9.out HS4.out, by repeat (first | exact HB8.out | refine zaR ?_ (show w.heap.size ≤ w.heap.size + 1 + 1 by omega))⟩
 ·
  subst hk
  subst ho
  subst ha
  obtain ⟨z0, z1, z2, z3, z4⟩ := cells5 HQ8.out.2.2.2
  obtain ⟨p0, p1, p2, p3, p4⟩ := cells5 HQ8.out.2.2.1
  obtain ⟨y0, y1, y2, y3, y4⟩ := cells5 HQ8.out.2.1
  have f0 := free_at HQ8.out.2.2.1 0
  have f1 := free_at HQ8.out.2.2.1 1
  have f2 := free_at HQ8.out.2.2.1 2
  have f3 := free_at HQ8.out.2.2.1 3
  have f4 := free_at HQ8.out.2.2.1 4
  go_wp2_with fail
  have d2 := zaf (zaf (zaf (zaf (zaf HQ8.out.2.2.1 0 (.int .i64 a) rfl) 1 (.int .i64 b) rfl) 2 (.int .u64 c) rfl) 3 (.string s) rfl) 4 (.slice A5 l1.length c5) rfl
  have HR9 := zaa.mk (Kd.R_set (Kd.R_set (Kd.R_set (Kd.R_set (Kd.R_set HR8.out HQ8.out.2.2.1 d9 0 (.int .i64 a)) (zaf HQ8.out.2.2.1 0 (.int .i64 a) rfl) d9 1 (.int .i64 b)) (zaf (zaf HQ8.out.2.2.1 0 (.int .i64 a) rfl) 1 (.int .i64 b) rfl) d9 2 (.int .u64 c)) (zaf (zaf (zaf HQ8.out.2.2.1 0 (.int .i64 a) rfl) 1 (.int .i64 b) rfl) 2 (.int .u64 c) rfl) d9 3 (.string s)) (zaf (zaf (zaf (zaf HQ8.out.2.2.1 0 (.int .i64 a) rfl) 1 (.int .i64 b) rfl) 2 (.int .u64 c) rfl) 3 (.string s) rfl) d9 4 (.slice A5 l1.length c5))
  refine bodyPost_ret (results_cell_row rfl _ _ (w.heap.size + 1 + 1) 27 #[.int .i64 a, .int .i64 b, .int .u64 c, .string s, .slice A5 l1.length c5] (0, 0) _ rfl d2 Try.underlying27 rfl k9) rfl ?_
  exact ⟨_, rfl, Kd.zbi HR9.out HS4.out, by repeat (first | exact HB8.out | refine zaR ?_ (show w.heap.size ≤ w.heap.size + 1 + 1 by omega))⟩
 ·
  subst hk
  subst ho
  have hd : decide (a = tag) = false := decide_eq_false ha
  have hq : (a == tag) = false := by simpa using ha
  obtain ⟨z0, z1, z2, z3, z4⟩ := cells5 HQ8.out.2.2.2
  obtain ⟨p0, p1, p2, p3, p4⟩ := cells5 HQ8.out.2.2.1
  obtain ⟨y0, y1, y2, y3, y4⟩ := cells5 HQ8.out.2.1
  have f0 := free_at HQ8.out.2.2.1 0
  have f1 := free_at HQ8.out.2.2.1 1
  have f2 := free_at HQ8.out.2.2.1 2
  have f3 := free_at HQ8.out.2.2.1 3
  have f4 := free_at HQ8.out.2.2.1 4
  have k2 := zad HQ8.out.1 2
  simp only [List.getElem?_toArray, List.getElem?_cons_zero, List.getElem?_cons_succ] at k2
  go_wp2_with fail
  exact ⟨rfl, rfl, HB8.out⟩
 ·
  subst hk
  subst ho
  subst ha
  obtain ⟨z0, z1, z2, z3, z4⟩ := cells5 HQ8.out.2.2.2
  obtain ⟨p0, p1, p2, p3, p4⟩ := cells5 HQ8.out.2.2.1
  obtain ⟨y0, y1, y2, y3, y4⟩ := cells5 HQ8.out.2.1
  have f0 := free_at HQ8.out.2.2.1 0
  have f1 := free_at HQ8.out.2.2.1 1
  have f2 := free_at HQ8.out.2.2.1 2
  have f3 := free_at HQ8.out.2.2.1 3
  have f4 := free_at HQ8.out.2.2.1 4
  go_wp2_with fail
  have d2 := zaf (zaf (zaf (zaf (zaf HQ8.out.2.2.1 0 (.int .i64 6) rfl) 1 (.int .i64 b) rfl) 2 (.int .u64 c) rfl) 3 (.string s) rfl) 4 (.slice A5 l1.length c5) rfl
  have HR9 := zaa.mk (Kd.R_set (Kd.R_set (Kd.R_set (Kd.R_set (Kd.R_set HR8.out HQ8.out.2.2.1 d9 0 (.int .i64 6)) (zaf HQ8.out.2.2.1 0 (.int .i64 6) rfl) d9 1 (.int .i64 b)) (zaf (zaf HQ8.out.2.2.1 0 (.int .i64 6) rfl) 1 (.int .i64 b) rfl) d9 2 (.int .u64 c)) (zaf (zaf (zaf HQ8.out.2.2.1 0 (.int .i64 6) rfl) 1 (.int .i64 b) rfl) 2 (.int .u64 c) rfl) d9 3 (.string s)) (zaf (zaf (zaf (zaf HQ8.out.2.2.1 0 (.int .i64 6) rfl) 1 (.int .i64 b) rfl) 2 (.int .u64 c) rfl) 3 (.string s) rfl) d9 4 (.slice A5 l1.length c5))
  refine bodyPost_ret (results_cell_row rfl _ _ (w.heap.size + 1 + 1) 27 #[.int .i64 6, .int .i64 b, .int .u64 c, .string s, .slice A5 l1.length c5] (0, 0) _ rfl d2 Try.underlying27 rfl k9) rfl ?_
  exact ⟨_, rfl, Kd.zbi HR9.out HS4.out, by repeat (first | exact HB8.out | refine zaR ?_ (show w.heap.size ≤ w.heap.size + 1 + 1 by omega))⟩
 ·
  subst hk
  subst ho
  have hd : decide (a = 6) = false := decide_eq_false ha
  have hq : (a == 6) = false := by simpa using ha
  have hd7 : decide (a = 7) = false := decide_eq_false ha7
  have hq7 : (a == 7) = false := by simpa using ha7
  obtain ⟨y0, y1, y2, y3, y4⟩ := cells5 HQ8.out.2.1
  have k0 := zad HQ8.out.1 0
  simp only [List.getElem?_toArray, List.getElem?_cons_zero, List.getElem?_cons_succ] at k0
  have HSH := zaa.mk (hsh w8 HB8.out)
  clear hsh
  go_wp2_with fail
  refine HSH.out.mono ?_
  rintro e w9 ⟨v9, rfl, hR9, hb9⟩
  obtain ⟨A9, c9, rfl, hc9, hC9⟩ := Kd.zb4 hR9
  obtain ⟨W10, hW10⟩ : ∃ W10, W10 = w9.alloc (.cells #[.slice A9 sh.length c9] 29) := ⟨_, rfl⟩
  have hb10 : Below w9.heap.size w9 W10 := by rw [hW10]; exact (Below.refl _ _).alloc (Nat.le_refl _) _
  have hbx : Below w8.heap.size w8 W10 := hb9.trans (hb10.mono hb9.size)
  have q0 := (hbx.block _ (zai HQ8.out.1)).trans HQ8.out.1
  have q1 := (hbx.block _ (zai HQ8.out.2.1)).trans HQ8.out.2.1
  have q2 := (hbx.block _ (zai HQ8.out.2.2.1)).trans HQ8.out.2.2.1
  have qn : W10.heap[w9.heap.size]? = some (.cells #[.slice A9 sh.length c9] 29 (0, 0)) := by rw [hW10]; exact at_new _ _ rfl
  have HB10 := zaa.mk (HB8.out.trans (hbx.mono HB8.out.size))
  have HQ10 := zaa.mk (And.intro q0 (And.intro q1 (And.intro q2 qn)))
  have HC10 := zaa.mk (Kd.zat hC9 hb10)
  have HW10 := zaa.mk hW10
  have HSZ := zaa.mk (show w8.heap.size ≤ W10.heap.size from hbx.size)
  rw [hW10] at q0 q1
  obtain ⟨y0, y1, y2, y3, y4⟩ := cells5 q1
  have k0 := zad q0 0
  have k2 := zad q0 2
  simp only [List.getElem?_toArray, List.getElem?_cons_zero, List.getElem?_cons_succ] at k0 k2
  clear q0 q1 q2 qn hb9 hR9 hC9 hc9 hb10 hbx hW10 HSH
  have hmf : ∀ (fn : Fn) (first cap : Array Value) (w : World), (Instr.makeFunc fn first cap).run Try.prog w = .ok (.func fn first cap) w := fun _ _ _ _ => rfl
  go_wp2_with fail
  rw [← HW10.out]
  exact ⟨rfl, rfl, HB10.out⟩
 ·
  subst hk
  subst ha
  obtain ⟨y0, y1, y2, y3, y4⟩ := cells5 HQ8.out.2.1
  have k0 := zad HQ8.out.1 0
  simp only [List.getElem?_toArray, List.getElem?_cons_zero, List.getElem?_cons_succ] at k0
  have HSH := zaa.mk (hsh w8 HB8.out)
  clear hsh
  go_wp2_with fail
  refine HSH.out.mono ?_
  rintro e w9 ⟨v9, rfl, hR9, hb9⟩
  obtain ⟨A9, c9, rfl, hc9, hC9⟩ := Kd.zb4 hR9
  obtain ⟨W10, hW10⟩ : ∃ W10, W10 = w9.alloc (.cells #[.slice A9 sh.length c9] 29) := ⟨_, rfl⟩
  have hb10 : Below w9.heap.size w9 W10 := by rw [hW10]; exact (Below.refl _ _).alloc (Nat.le_refl _) _
  have hbx : Below w8.heap.size w8 W10 := hb9.trans (hb10.mono hb9.size)
  have q0 := (hbx.block _ (zai HQ8.out.1)).trans HQ8.out.1
  have q1 := (hbx.block _ (zai HQ8.out.2.1)).trans HQ8.out.2.1
  have q2 := (hbx.block _ (zai HQ8.out.2.2.1)).trans HQ8.out.2.2.1
  have qn : W10.heap[w9.heap.size]? = some (.cells #[.slice A9 sh.length c9] 29 (0, 0)) := by rw [hW10]; exact at_new _ _ rfl
  have HB10 := zaa.mk (HB8.out.trans (hbx.mono HB8.out.size))
  have HQ10 := zaa.mk (And.intro q0 (And.intro q1 (And.intro q2 qn)))
  have HC10 := zaa.mk (Kd.zat hC9 hb10)
  have HW10 := zaa.mk hW10
  have HSZ := zaa.mk (show w8.heap.size ≤ W10.heap.size from hbx.size)
  rw [hW10] at q0 q1
  obtain ⟨y0, y1, y2, y3, y4⟩ := cells5 q1
  have k0 := zad q0 0
  have k2 := zad q0 2
  simp only [List.getElem?_toArray, List.getElem?_cons_zero, List.getElem?_cons_succ] at k0 k2
  clear q0 q1 q2 qn hb9 hR9 hC9 hc9 hb10 hbx hW10 HSH
  have hmf : ∀ (fn : Fn) (first cap : Array Value) (w : World), (Instr.makeFunc fn first cap).run Try.prog w = .ok (.func fn first cap) w := fun _ _ _ _ => rfl
  have HX := zaa.mk hx
  have HLL := zaa.mk (And.intro hls hlm)
  have HMS := zaa.mk (hms W10 HB10.out)
  clear hx hms hls hlm
  go_wp2_with fail
  rw [← HW10.out]
  refine HMS.out.mono ?_
  rintro e w11 ⟨v11, rfl, hR11, hb11⟩
  obtain ⟨A11, c11, rfl, hc11, hC11⟩ := Kd.zb4 hR11
  have HB11 := zaa.mk (HB10.out.trans (hb11.mono HB10.out.size))
  have HH := zaa.mk (zgU A11 c11 ms HLL.out.2 A9 c9 sh HLL.out.1 w9.heap.size w11 ((hb11.block _ (zai HQ10.out.2.2.2)).trans HQ10.out.2.2.2) (Kd.zat HC10.out hb11) hC11)
  have HBS := zaa.mk hb11
  obtain ⟨r, hr⟩ : ∃ r, r = ms.any fun x => !hasM sh x := ⟨_, rfl⟩
  rw [← hr] at HH HX
  clear hr hR11 hb11 hc11 hC11 HMS y0 y1 y2 y3 y4 k0 k2
  go_wp2_with fail
  refine HH.out.mono ?_
  rintro e w12 ⟨rfl, hb12⟩
  have hb := HBS.out.trans (hb12.mono HBS.out.size)
  have HB12 := zaa.mk (HB10.out.trans (hb.mono HB10.out.size))
  have q0 := (hb.block _ (zai HQ10.out.1)).trans HQ10.out.1
  have q1 := (hb.block _ (zai HQ10.out.2.1)).trans HQ10.out.2.1
  have q2 := (hb.block _ (zai HQ10.out.2.2.1)).trans HQ10.out.2.2.1
  obtain ⟨y0, y1, y2, y3, y4⟩ := cells5 q1
  have k0 := zad q0 0
  have k1 := zad q0 1
  have k2 := zad q0 2
  simp only [List.getElem?_toArray, List.getElem?_cons_zero, List.getElem?_cons_succ] at k0 k1 k2
  have Q2 := zaa.mk q2
  clear q0 q1 q2 hb hb12 HH HBS
  rcases HX.out with ⟨h1, h2⟩ | ⟨h1, h2, hbe⟩
  ·
   subst h1
   subst h2
   go_wp2_with fail
   exact ⟨rfl, rfl, HB12.out⟩
  ·
   subst h1
   obtain ⟨⟨r1, r2, r3, r4, l5⟩, ho⟩ := Option.isSome_iff_exists.1 h2
   subst ho
   have HBE := zaa.mk (hbe w12 HB12.out)
   clear hbe h2 HX
   go_wp2_with fail
   refine HBE.out.mono ?_
   rintro e w13 ⟨v13, rfl, hR13, hb13⟩
   obtain ⟨A13, c13, rfl⟩ := Kd.zbj hR13
   have q2 := (hb13.block _ (zai Q2.out)).trans Q2.out
   obtain ⟨p0, p1, p2, p3, p4⟩ := cells5 q2
   have f0 := free_at q2 0
   have f1 := free_at q2 1
   have f2 := free_at q2 2
   have f3 := free_at q2 3
   have f4 := free_at q2 4
   have Q13 := zaa.mk q2
   have HR13 := zaa.mk hR13
   have HB13 := zaa.mk (HB12.out.trans (hb13.mono HB12.out.size))
   clear q2 hR13 hb13 HBE y0 y1 y2 y3 y4 k0 k1 k2
   go_wp2_with fail
   have d2 := zaf (zaf (zaf (zaf (zaf Q13.out 0 (.int .i64 r1) rfl) 1 (.int .i64 r2) rfl) 2 (.int .u64 r3) rfl) 3 (.string r4) rfl) 4 (.slice A13 l5.length c13) rfl
   have HR9 := zaa.mk (Kd.R_set (Kd.R_set (Kd.R_set (Kd.R_set (Kd.R_set HR13.out Q13.out d9 0 (.int .i64 r1)) (zaf Q13.out 0 (.int .i64 r1) rfl) d9 1 (.int .i64 r2)) (zaf (zaf Q13.out 0 (.int .i64 r1) rfl) 1 (.int .i64 r2) rfl) d9 2 (.int .u64 r3)) (zaf (zaf (zaf Q13.out 0 (.int .i64 r1) rfl) 1 (.int .i64 r2) rfl) 2 (.int .u64 r3) rfl) d9 3 (.string r4)) (zaf (zaf (zaf (zaf Q13.out 0 (.int .i64 r1) rfl) 1 (.int .i64 r2) rfl) 2 (.int .u64 r3) rfl) 3 (.string r4) rfl) d9 4 (.slice A13 l5.length c13))
   refine bodyPost_ret (results_cell_row rfl _ _ (w.heap.size + 1 + 1) 27 #[.int .i64 r1, .int .i64 r2, .int .u64 r3, .string r4, .slice A13 l5.length c13] (0, 0) _ rfl d2 Try.underlying27 rfl k9) rfl ?_
   exact ⟨_, rfl, Kd.zbi HR9.out HB12.out.size, by repeat (first | exact HB13.out | refine zaR ?_ (show w.heap.size ≤ w.heap.size + 1 + 1 by omega))⟩
 ·
  subst ho
  have hd1 : decide (kd = 1) = false := decide_eq_false k1
  have hq1 : (kd == 1) = false := by simpa using k1
  have hd2 : decide (kd = 2) = false := decide_eq_false k2
  have hq2 : (kd == 2) = false := by simpa using k2
  have hd3 : decide (kd = 3) = false := decide_eq_false k3
  have hq3 : (kd == 3) = false := by simpa using k3
  clear k1 k2 k3
  have k2 := zad HQ8.out.1 2
  simp only [List.getElem?_toArray, List.getElem?_cons_zero, List.getElem?_cons_succ] at k2
  go_wp2_with fail
  exact ⟨rfl, rfl, HB8.out⟩
end Go.Proofs.YtinkbljjpafadaaTab
end

section
namespace Go.Proofs.YtinkbljjpafadaaTab
open Go.RowKit Go.Proofs.Ytinkbljjpafadaa.PAll Go.Proofs.YtinkbljjpafadaaW.PrintWords Go.Proofs.YtinkbljjpafadaaW.PrintLast Go.Proofs.YtinkbljjpafadaaW.zaT Go.Proofs.YtinkbljjpafadaaRF Go.Proofs.YtinkbljjpafadaaRG
attribute [local go_sem] Oper.semAt_some
theorem zeG (p q : Addr) (w : World) :
  CallsD Try.prog 63 #[.pointer (some p), .pointer (some q)] .returning w fun e u' w' => e = .returned (.tuple #[]) ∧ u' = .returning ∧ w' = w := by
 refine callsD_of_wpS Try.func63 rfl fun c₀ cs hu => ?_
 apply wpS_seq
 apply wpS_region
 simp [wpOpsS, go_sem, recoverD, hu, Try.ntmps63, Exit.thenS]
 apply wpS_seq
 apply wpS_region
 simp [wpOpsS, go_sem, recoverD, hu, Exit.thenS]
 refine wpS_cond (t := false) (by simp [Act.eval, Array.replicate]) ?_
 simp only [Bool.false_eq_true, if_false]
 refine wpS_of_wp (wp_skip ?_)
 cases c₀
 simp_all [bodyPostS, results, Try.results63]
theorem zcj {n : Nat} {A B : World} (h : Below n A B) {a : Addr} (ha : n ≤ a.block) (u : Value) : Below n A (B.setCell a u) := ⟨h.os, h.tape, h.output, by simpa using h.size, fun k hk => (Below.heap_setCell _ _ _ _ o9).trans (h.block k hk)⟩
def zhX (label : Int) (r : Bool) : PanicEntry := { v := .iface 113 (.agg #[.int .i64 label]), recovered := r }
theorem zeg (p q : Nat) (label i : Int) (a b c : Int) (s : ByteArray) (v : Value) (w : World) (hp : w.heap[p]? = some (.cells #[.int .i64 a, .int .i64 b, .int .u64 c, .string s, v] 27 (0, 0))) (hq : w.heap[q]? = some (.cells #[.int .i64 i] 3 (0, 0))) :
  CallsD Try.prog 63 #[.pointer (some ⟨p, 0, none⟩), .pointer (some ⟨q, 0, none⟩)] (.panicking [zhX label false]) w fun e u' w' => e = .returned (.tuple #[]) ∧ u' = .panicking [zhX label true] ∧ w'.heap[p]? = some (.cells #[.int .i64 0, .int .i64 0, .int .u64 0, .string ⟨#[]⟩, .slice none 0 0] 27 (0, 0)) ∧ w'.heap[q]? = some (.cells #[.int .i64 label] 3 (0, 0)) ∧ ∀ B, B ≤ p → B ≤ q → Below B w w' := by
 have hu113 := Try.underlying113
 have hu27 := Try.underlying27
 refine callsD_of_wpS Try.func63 rfl fun c₀ cs hu => ?_
 apply wpS_seq
 apply wpS_region
 simp [wpOpsS, go_sem, recoverD, hu, zhX, Try.ntmps63, Exit.thenS]
 refine wpS_of_wp ?_
 have HU := zaa.mk hu
 have HP := zaa.mk hp
 have HQQ := zaa.mk hq
 obtain ⟨p0, p1, p2, p3, p4⟩ := cells5 hp
 have f0 := free_at hp 0
 have f1 := free_at hp 1
 have f2 := free_at hp 2
 have f3 := free_at hp 3
 have f4 := free_at hp 4
 have q0 := zad hq 0
 have g0 := free_at hq 0
 simp only [List.getElem?_toArray, List.getElem?_cons_zero, List.getElem?_cons_succ] at q0
 clear hp hq hu
 refine Code.wp_mono (Q := fun e a' w' => e = .normal ∧ a'.defers = [] ∧ (w'.heap[p]? = some (.cells #[.int .i64 0, .int .i64 0, .int .u64 0, .string ⟨#[]⟩, .slice none 0 0] 27 (0, 0)) ∧ w'.heap[q]? = some (.cells #[.int .i64 label] 3 (0, 0)) ∧ ∀ B, B ≤ p → B ≤ q → Below B w w')) ?_ ?_
 ·
  rintro e a' w' ⟨rfl, hd, h1⟩
  have hu' := HU.out
  cases c₀
  simp_all [bodyPostS, results, Try.results63]
 change Code.wp _ _ _ { tmps := #[.pointer (some ⟨p, 0, none⟩), .pointer (some ⟨q, 0, none⟩), .iface 113 (.agg #[.int .i64 label]), undef, undef, .iface 113 (.agg #[.int .i64 label]), undef, undef, undef, undef, undef, undef, undef, undef, undef, undef, undef, undef, undef], defers := [] } w
 have hta : ∀ (w : World), (Instr.typeAssert (.iface 113 (.agg #[.int .i64 label])) 20 113 true).run Try.prog w = .ok (.tuple #[.agg #[.int .i64 label], .bool true]) w := fun w => by rfl
 go_wp2
 obtain ⟨W0, hW0⟩ : ∃ W0, W0 = w.alloc (.cells #[.int .i64 label] 113) := ⟨_, rfl⟩
 have hb0 : Below w.heap.size w W0 := by rw [hW0]; exact (Below.refl _ _).alloc (Nat.le_refl _) _
 have hp0 := (hb0.block _ (zai HP.out)).trans HP.out
 have hq0 := (hb0.block _ (zai HQQ.out)).trans HQQ.out
 have hn0 : W0.heap[w.heap.size]? = some (.cells #[.int .i64 label] 113 (0, 0)) := by rw [hW0]; exact at_new _ _ rfl
 have hpl := zai HP.out
 have hql := zai HQQ.out
 have hpq : p ≠ q := fun e => by have h1 := HP.out; rw [e, HQQ.out] at h1; cases h1
 have hn1 := zad (zcd hn0) 0
 simp only [List.getElem?_toArray, List.getElem?_cons_zero] at hn1
 rw [← hW0]
 have HB0 := zaa.mk hb0
 have HP0 := zaa.mk hp0
 have HQ0 := zaa.mk hq0
 have HN0 := zaa.mk hn0
 clear hW0 hb0 hp0 hq0 hn0 p0 p1 p2 p3 p4 f0 f1 f2 f3 f4 q0 g0
 refine ziC (n := 5) (S := fun w' => w'.cell? ⟨w.heap.size, 0, none⟩ = some (.int .i64 label)) (ds := []) #[false, false, false, false, false] k9 rfl rfl hn1 (fun hHeld => ?_)
 refine pure_ (i := 0) (N := some 16) (v := ?_) (a' := ?_) #[true, false, false, false, false] rfl rfl k9 (fun _ _ _ h => h) (Or.inl ⟨by rfl, ?_⟩) ?_ ?_
 rotate_left
 ·
  intro w'
  go_simp
  with_reducible rfl
 rotate_left
 ·
  simp only [Act.put, List.setIfInBounds_toArray, List.set_cons_zero, List.set_cons_succ, i64_w, i32_w]
  rfl
 refine pure_ (i := 1) (N := some 17) (v := ?_) (a' := ?_) #[true, true, false, false, false] rfl rfl k9 (fun _ _ _ h => h) (Or.inl ⟨by rfl, ?_⟩) ?_ ?_
 rotate_left
 ·
  intro w'
  go_simp
  with_reducible rfl
 rotate_left
 ·
  simp only [Act.put, List.setIfInBounds_toArray, List.set_cons_zero, List.set_cons_succ, i64_w, i32_w]
  rfl
 refine take_ (i := 2) (N := some 18) (v := ?_) (a' := ?_) #[true, true, true, false, false] rfl rfl k9 (fun _ _ _ h => h) (Or.inl ⟨by rfl, ?_⟩) hHeld ?_ ?_
 rotate_left
 ·
  rintro w' s0
  go_simp
  with_reducible rfl
 rotate_left
 ·
  simp only [Act.put, List.setIfInBounds_toArray, List.set_cons_zero, List.set_cons_succ, i64_w, i32_w]
  rfl
 obtain ⟨Wd, hWd⟩ : ∃ Wd, Wd = W0.drew := ⟨_, rfl⟩
 have hpd := zcd HP0.out
 have hqd := zcd HQ0.out
 have hnd := zcd HN0.out
 have hbd := zb8 HB0.out
 rw [← hWd] at hpd hqd hnd hbd hHeld ⊢
 have BP := zaa.mk hpd
 have BQ := zaa.mk hqd
 have BN := zaa.mk hnd
 have BB := zaa.mk hbd
 clear hWd hqd hnd hbd
 refine one_ (i := 3) (N := none) #[true, true, true, true, false] rfl rfl k9 s9 (fun K hK => ?_)
 obtain ⟨p0, p1, p2, p3, p4⟩ := cells5 hpd
 have f0 := free_at hpd 0
 have f1 := free_at hpd 1
 have f2 := free_at hpd 2
 have f3 := free_at hpd 3
 have f4 := free_at hpd 4
 clear hpd
 refine skip_ (w1 := ?_) (by rfl) rfl ?_ ?_
 rotate_left
 ·
  go_simp
  rfl
 have d2 := zaf (zaf (zaf (zaf (zaf BP.out 0 (.int .i64 0) rfl) 1 (.int .i64 0) rfl) 2 (.int .u64 0) rfl) 3 (.string ⟨#[]⟩) rfl) 4 (.slice none 0 0) rfl
 obtain ⟨W5, hW5⟩ : ∃ W5, W5 = ((((Wd.setCell ⟨p, 0, none⟩ (.int .i64 0)).setCell ⟨p, 1, none⟩ (.int .i64 0)).setCell ⟨p, 2, none⟩ (.int .u64 0)).setCell ⟨p, 3, none⟩ (.string ⟨#[]⟩)).setCell ⟨p, 4, none⟩ (.slice none 0 0) := ⟨_, rfl⟩
 have hfar : ∀ k, k ≠ p → W5.heap[k]? = Wd.heap[k]? := fun k hk => by
  rw [hW5, Below.heap_setCell _ _ _ _ hk, Below.heap_setCell _ _ _ _ hk, Below.heap_setCell _ _ _ _ hk, Below.heap_setCell _ _ _ _ hk, Below.heap_setCell _ _ _ _ hk]
 have hn5 := (hfar w.heap.size o9).trans BN.out
 have hq5 := (hfar q (fun e => hpq e.symm)).trans BQ.out
 have hb5 : ∀ B, B ≤ p → B ≤ w.heap.size → Below B w W5 := fun B hB h2 => by rw [hW5]; exact zcj (zcj (zcj (zcj (zcj (BB.out.mono h2) hB _) hB _) hB _) hB _) hB _
 change K _ ((((((Wd.setCell ⟨p, 0, none⟩ (.int .i64 0)).setCell ⟨p, 1, none⟩ (.int .i64 0)).setCell ⟨p, 2, none⟩ (.int .u64 0)).setCell ⟨p, 3, none⟩ (.string ⟨#[]⟩)).setCell ⟨p, 4, none⟩ (.slice none 0 0)))
 rw [← hW5] at d2 ⊢
 have hn5c := zad hn5 0
 simp only [List.getElem?_toArray, List.getElem?_cons_zero] at hn5c
 refine hK.out _ _ hn5c (fun hHeld5 => ?_)
 clear hK K
 have DP := zaa.mk d2
 have DB := zaa.mk hb5
 have DQ := zaa.mk hq5
 have q0 := zad hq5 0
 have g0 := free_at hq5 0
 simp only [List.getElem?_toArray, List.getElem?_cons_zero] at q0
 clear p0 p1 p2 p3 p4 f0 f1 f2 f3 f4 hfar hn5 hq5 hb5 hW5 d2 hHeld
 refine one_ (i := 4) (N := none) #[true, true, true, true, true] rfl rfl k9 s9 (fun K hK => ?_)
 refine skip_ (w1 := ?_) (by rfl) rfl ?_ ?_
 rotate_left
 ·
  go_simp
  rfl
 refine hK.out _ _ ((World.cell?_of_block (Below.heap_setCell _ _ _ _ (show w.heap.size ≠ q by omega))).trans hn5c) (fun _ => ?_)
 refine done_ k9 ?_
 exact ⟨rfl, rfl, (Below.heap_setCell _ _ _ _ (show p ≠ q from hpq)).trans DP.out, zaf DQ.out 0 _ rfl, fun B h1 h2 => zcj (DB.out B h1 o9) h2 _⟩
def Cau (label : Int) (w : World) (o : Option Val) (e : Ending) (w' : World) : Prop :=
 match o with
 | some (a, b, c, s, l) => ∃ v, e = .returned (.tuple #[.agg #[.int .i64 a, .int .i64 b, .int .u64 c, .string s, v], .int .i64 0]) ∧ Kd.R k35 35 w' w.heap.size (fun _ => True) v l ∧ Below w.heap.size w w'
 | none => e = .returned (.tuple #[.agg #[.int .i64 0, .int .i64 0, .int .u64 0, .string ⟨#[]⟩, .slice none 0 0], .int .i64 label]) ∧ Below w.heap.size w w'
theorem zdo (tmps : Array Value) (w : World) (g g2 : Nat) (x0 x1 x2 x3 x4 : Value) (x : Int) (hp : tmps.getD 2 undef = .pointer (some ⟨g, 0, none⟩)) (hq : tmps.getD 3 undef = .pointer (some ⟨g2, 0, none⟩))
  (hg : w.heap[g]? = some (.cells #[x0, x1, x2, x3, x4] 27 (0, 0))) (hg2 : w.heap[g2]? = some (.cells #[.int .i64 x] 3 (0, 0))) :
  (results Try.f45 tmps).run Try.prog w = .ok (.tuple #[.agg #[x0, x1, x2, x3, x4], .int .i64 x]) w := by
 have hp' : tmps[2]?.getD undef = .pointer (some ⟨g, 0, none⟩) := by simpa using hp
 have hq' : tmps[3]?.getD undef = .pointer (some ⟨g2, 0, none⟩) := by simpa using hq
 have hc := zad hg2 0
 have c0 := zad hg 0
 have c1 := zad hg 1
 have c2 := zad hg 2
 have c3 := zad hg 3
 have c4 := zad hg 4
 have hu27 := Try.underlying27
 simp only [List.getElem?_toArray, List.getElem?_cons_zero, List.getElem?_cons_succ] at hc c0 c1 c2 c3 c4
 simp [results, Try.results45, hp', hq', asAddr, go_sem, hc, c0, c1, c2, c3, c4]
theorem zgs (g : Nat) (caps : Array Value) (label : Int) (o : Option Val) (w : World) (hg : g = 46 ∨ g = 54)
  (hdo : ∀ w', Below w.heap.size w w' → Calls Try.prog g caps w' (Ent label w' o)) :
  Calls Try.prog 45 #[.func (.func g) #[] caps] w (Cau label w o) := by
 have hu27 := Try.underlying27
 obtain ⟨W2, hW2⟩ : ∃ W2, W2 = (w.alloc (.cells #[.int .i64 0, .int .i64 0, .int .u64 0, .string ⟨#[]⟩, .slice none 0 0] 27)).alloc (.cells #[.int .i64 0] 3) := ⟨_, rfl⟩
 have hb2 : Below w.heap.size w W2 := by rw [hW2]; exact ((Below.refl _ _).alloc (Nat.le_refl _) _).alloc s9 _
 have k0 : W2.heap[w.heap.size]? = some (.cells #[.int .i64 0, .int .i64 0, .int .u64 0, .string ⟨#[]⟩, .slice none 0 0] 27 (0, 0)) := by rw [hW2]; exact zal (at_new _ _ rfl) _
 have k1 : W2.heap[w.heap.size + 1]? = some (.cells #[.int .i64 0] 3 (0, 0)) := by rw [hW2]; exact at_new _ _ s9
 have HDO := zaa.mk (hdo W2 hb2)
 have HB2 := zaa.mk hb2
 have HK := zaa.mk (And.intro k0 k1)
 have HW2 := zaa.mk hW2
 have hmf : ∀ (fn : Fn) (first cap : Array Value) (w : World), (Instr.makeFunc fn first cap).run Try.prog w = .ok (.func fn first cap) w := fun _ _ _ _ => rfl
 clear hdo hb2 k0 k1 hW2
 rcases hg with rfl | rfl
 all_goals
  go_enter_defers Try.func45, Try.ntmps45
  go_wp2_with fail
  rw [← HW2.out]
  refine HDO.out.mono ?_
  intro e w3 hE
  cases o with
  | none =>
   obtain ⟨rfl, hb3⟩ := hE
   have hk0 := (hb3.block _ (zai HK.out.1)).trans HK.out.1
   have hk1 := (hb3.block _ (zai HK.out.2)).trans HK.out.2
   have hB3 := HB2.out.trans (hb3.mono HB2.out.size)
   refine leaves_cons (f := 63) (args := #[.pointer (some ⟨w.heap.size, 0, none⟩), .pointer (some ⟨w.heap.size + 1, 0, none⟩)]) s9 (by simp [go_sem]) ?_
   refine (zeg _ _ label 0 _ _ _ _ _ w3 hk0 hk1).mono ?_
   rintro e u' w4 ⟨rfl, rfl, h4, h5, h6⟩
   exact ⟨_, zdo _ _ w.heap.size (w.heap.size + 1) _ _ _ _ _ _ rfl rfl h4 h5, rfl, hB3.trans (h6 _ (Nat.le_refl _) o9)⟩
  | some o =>
   obtain ⟨a, b, c, s, l⟩ := o
   obtain ⟨v, rfl, hR, hb3⟩ := hE
   obtain ⟨A3, c3, rfl⟩ := Kd.zbj hR
   have hk0 := (hb3.block _ (zai HK.out.1)).trans HK.out.1
   have hk1 := (hb3.block _ (zai HK.out.2)).trans HK.out.2
   have hB3 := HB2.out.trans (hb3.mono HB2.out.size)
   obtain ⟨p0, p1, p2, p3, p4⟩ := cells5 hk0
   have f0 := free_at hk0 0
   have f1 := free_at hk0 1
   have f2 := free_at hk0 2
   have f3 := free_at hk0 3
   have f4 := free_at hk0 4
   have q0 := zad hk1 0
   have g0 := free_at hk1 0
   simp only [List.getElem?_toArray, List.getElem?_cons_zero] at q0
   have K0 := zaa.mk hk0
   have K1 := zaa.mk hk1
   have HR := zaa.mk hR
   have HB3 := zaa.mk hB3
   have HS2 := zaa.mk HB2.out.size
   clear hk0 hk1 hR hB3 hb3 HDO HK HB2 HW2
   go_wp2_with fail
   refine leaves_cons (f := 63) (args := #[.pointer (some ⟨w.heap.size, 0, none⟩), .pointer (some ⟨w.heap.size + 1, 0, none⟩)]) s9 (by simp [go_sem]) ?_
   refine (zeG _ _ _).mono ?_
   rintro e u' w4 ⟨rfl, rfl, rfl⟩
   have d2 := zaf (zaf (zaf (zaf (zaf K0.out 0 (.int .i64 a) rfl) 1 (.int .i64 b) rfl) 2 (.int .u64 c) rfl) 3 (.string s) rfl) 4 (.slice A3 l.length c3) rfl
   have HR9 := Kd.R_set (Kd.R_set (Kd.R_set (Kd.R_set (Kd.R_set HR.out K0.out d9 0 (.int .i64 a)) (zaf K0.out 0 (.int .i64 a) rfl) d9 1 (.int .i64 b)) (zaf (zaf K0.out 0 (.int .i64 a) rfl) 1 (.int .i64 b) rfl) d9 2 (.int .u64 c)) (zaf (zaf (zaf K0.out 0 (.int .i64 a) rfl) 1 (.int .i64 b) rfl) 2 (.int .u64 c) rfl) d9 3 (.string s)) (zaf (zaf (zaf (zaf K0.out 0 (.int .i64 a) rfl) 1 (.int .i64 b) rfl) 2 (.int .u64 c) rfl) 3 (.string s) rfl) d9 4 (.slice A3 l.length c3)
   have e1 := zby (zby (zby (zby (zby K1.out s9 (.int .i64 a) (p := ⟨w.heap.size, 0, none⟩)) s9 (.int .i64 b) (p := ⟨w.heap.size, 1, none⟩)) s9 (.int .u64 c) (p := ⟨w.heap.size, 2, none⟩)) s9 (.string s) (p := ⟨w.heap.size, 3, none⟩)) s9 (.slice A3 l.length c3) (p := ⟨w.heap.size, 4, none⟩)
   refine ⟨_, zdo _ _ w.heap.size (w.heap.size + 1) (.int .i64 a) (.int .i64 b) (.int .u64 c) (.string s) (.slice A3 l.length c3) 0 rfl rfl (zby d2 s9 _) (zaf e1 0 _ rfl), _, rfl, Kd.zbi (Kd.R_set HR9 e1 d9 0 _) HS2.out, ?_⟩
   exact zaR (zaR (zaR (zaR (zaR (zaR HB3.out s9) s9) s9) s9) s9) s9
end Go.Proofs.YtinkbljjpafadaaTab
end

section
namespace Go.Proofs.YtinkbljjpafadaaTab
open Go.RowKit Go.Proofs.Ytinkbljjpafadaa.PAll Go.Proofs.YtinkbljjpafadaaW.PrintWords Go.Proofs.YtinkbljjpafadaaW.PrintLast Go.Proofs.YtinkbljjpafadaaRF Go.Proofs.YtinkbljjpafadaaRG
attribute [local go_sem] Oper.semAt_some
def zkH (A0 : Option Addr) (c0 : Nat) (t : List (S64)) (merged : Bool) (label : Int) (a b c : Int) (s : ByteArray) (A1 : Option Addr) (c1 n1 : Nat) (ty : ByteArray) (o : Option Val) (w : World) : Prop :=
 ∀ w', Below w.heap.size w w' → Calls Try.prog 47 #[.agg #[.slice A0 t.length c0, .bool merged, .int .i64 label], .agg #[.int .i64 a, .int .i64 b, .int .u64 c, .string s, .slice A1 n1 c1], .string ty] w' (Ent label w' o)
theorem zgF (A0 : Option Addr) (c0 : Nat) (t : List (S64)) (merged : Bool) (label : Int) (a b c : Int) (s : ByteArray) (A1 : Option Addr) (c1 n1 : Nat) (ty : ByteArray) (o : Option Val) (w : World) (b0 b1 b2 b3 b4 : Nat)
  (h0 : w.heap[b0]? = some (.cells #[.slice A0 t.length c0] 22 (0, 0))) (h1 : w.heap[b1]? = some (.cells #[.int .i64 a, .int .i64 b, .int .u64 c, .string s, .slice A1 n1 c1] 27 (0, 0)))
  (h2 : w.heap[b2]? = some (.cells #[.string ty] 9 (0, 0))) (h3 : w.heap[b3]? = some (.cells #[.int .i64 label] 3 (0, 0))) (h4 : w.heap[b4]? = some (.cells #[.bool merged] 4 (0, 0)))
  (he : zkH A0 c0 t merged label a b c s A1 c1 n1 ty o w) :
  Calls Try.prog 46 #[.pointer (some ⟨b0, 0, none⟩), .pointer (some ⟨b4, 0, none⟩), .pointer (some ⟨b3, 0, none⟩), .pointer (some ⟨b1, 0, none⟩), .pointer (some ⟨b2, 0, none⟩)] w (Ent label w o) := by
 have hu27 := Try.underlying27
 obtain ⟨W1, hW1⟩ : ∃ W1, W1 = w.alloc (.cells #[.int .i64 0, .int .i64 0, .int .u64 0, .string ⟨#[]⟩, .slice none 0 0] 27) := ⟨_, rfl⟩
 have hb1 : Below w.heap.size w W1 := by rw [hW1]; exact (Below.refl _ _).alloc (Nat.le_refl _) _
 have k : W1.heap[w.heap.size]? = some (.cells #[.int .i64 0, .int .i64 0, .int .u64 0, .string ⟨#[]⟩, .slice none 0 0] 27 (0, 0)) := by rw [hW1]; exact at_new _ _ rfl
 have r0 := (hb1.block _ (zai h0)).trans h0
 have r1 := (hb1.block _ (zai h1)).trans h1
 have r2 := (hb1.block _ (zai h2)).trans h2
 have r3 := (hb1.block _ (zai h3)).trans h3
 have r4 := (hb1.block _ (zai h4)).trans h4
 rw [hW1] at r0 r1 r2 r3 r4
 obtain ⟨y0, y1, y2, y3, y4⟩ := cells5 r1
 have x0 := zad r0 0
 have x2 := zad r2 0
 have x3 := zad r3 0
 have x4 := zad r4 0
 simp only [List.getElem?_toArray, List.getElem?_cons_zero] at x0 x2 x3 x4
 have HE := zaa.mk (he W1 hb1)
 have HB := zaa.mk hb1
 have HK := zaa.mk k
 have HW := zaa.mk hW1
 clear r0 r1 r2 r3 r4 h0 h1 h2 h3 h4 he hb1 k hW1
 go_enter Try.func46, Try.ntmps46
 go_wp2_with fail
 rw [← HW.out]
 refine HE.out.mono ?_
 intro e w2 hE
 cases o with
 | none =>
  obtain ⟨rfl, hb⟩ := hE
  exact ⟨rfl, rfl, HB.out.trans (hb.mono HB.out.size)⟩
 | some o =>
  obtain ⟨r1, r2, r3, r4, l5⟩ := o
  obtain ⟨v13, rfl, hR13, hb13⟩ := hE
  obtain ⟨A13, c13, rfl⟩ := Kd.zbj hR13
  have q2 := (hb13.block _ (zai HK.out)).trans HK.out
  obtain ⟨p0, p1, p2, p3, p4⟩ := cells5 q2
  have f0 := free_at q2 0
  have f1 := free_at q2 1
  have f2 := free_at q2 2
  have f3 := free_at q2 3
  have f4 := free_at q2 4
  have Q13 := zaa.mk q2
  have HR13 := zaa.mk hR13
  have HB13 := zaa.mk (HB.out.trans (hb13.mono HB.out.size))
  clear q2 hR13 hb13 HE y0 y1 y2 y3 y4 x0 x2 x3 x4
  go_wp2_with fail
  have d2 := zaf (zaf (zaf (zaf (zaf Q13.out 0 (.int .i64 r1) rfl) 1 (.int .i64 r2) rfl) 2 (.int .u64 r3) rfl) 3 (.string r4) rfl) 4 (.slice A13 l5.length c13) rfl
  have HR9 := zaa.mk (Kd.R_set (Kd.R_set (Kd.R_set (Kd.R_set (Kd.R_set HR13.out Q13.out d9 0 (.int .i64 r1)) (zaf Q13.out 0 (.int .i64 r1) rfl) d9 1 (.int .i64 r2)) (zaf (zaf Q13.out 0 (.int .i64 r1) rfl) 1 (.int .i64 r2) rfl) d9 2 (.int .u64 r3)) (zaf (zaf (zaf Q13.out 0 (.int .i64 r1) rfl) 1 (.int .i64 r2) rfl) 2 (.int .u64 r3) rfl) d9 3 (.string r4)) (zaf (zaf (zaf (zaf Q13.out 0 (.int .i64 r1) rfl) 1 (.int .i64 r2) rfl) 2 (.int .u64 r3) rfl) 3 (.string r4) rfl) d9 4 (.slice A13 l5.length c13))
  refine bodyPost_ret (results_cell_row rfl _ _ w.heap.size 27 #[.int .i64 r1, .int .i64 r2, .int .u64 r3, .string r4, .slice A13 l5.length c13] (0, 0) _ rfl d2 Try.underlying27 rfl k9) rfl ?_
  exact ⟨_, rfl, Kd.zbi HR9.out HB.out.size, by repeat (first | exact HB13.out | refine zaR ?_ (Nat.le_refl _))⟩
theorem zgP (A0 : Option Addr) (c0 : Nat) (t : List (S64)) (merged : Bool) (label : Int) (a b c : Int) (s : ByteArray) (A1 : Option Addr) (c1 n1 : Nat) (ty : ByteArray) (o : Option Val) (w : World)
  (he : zkH A0 c0 t merged label a b c s A1 c1 n1 ty o w) :
  Calls Try.prog 30 #[.slice A0 t.length c0, .agg #[.int .i64 a, .int .i64 b, .int .u64 c, .string s, .slice A1 n1 c1], .string ty, .int .i64 label, .bool merged] w (Cau label w o) := by
 have hu27 := Try.underlying27
 obtain ⟨W1, hW1⟩ : ∃ W1, W1 = (((((w.alloc (.cells #[.slice A0 t.length c0] 22)).alloc (.cells #[.int .i64 a, .int .i64 b, .int .u64 c, .string s, .slice A1 n1 c1] 27)).alloc (.cells #[.string ty] 9)).alloc (.cells #[.int .i64 label] 3)).alloc (.cells #[.bool merged] 4)).alloc (.cells #[.int .i64 0, .int .i64 0, .int .u64 0, .string ⟨#[]⟩, .slice none 0 0] 27) := ⟨_, rfl⟩
 have hb1 : Below w.heap.size w W1 := by rw [hW1]; exact ((((((Below.refl _ _).alloc (Nat.le_refl _) _).alloc s9 _).alloc (by simp; omega) _).alloc (by simp; omega) _).alloc (by simp; omega) _).alloc (by simp; omega) _
 have r0 : W1.heap[w.heap.size]? = some (.cells #[.slice A0 t.length c0] 22 (0, 0)) := by rw [hW1]; exact zal (zal (zal (zal (zal (at_new _ _ rfl) _) _) _) _) _
 have r1 : W1.heap[w.heap.size + 1]? = some (.cells #[.int .i64 a, .int .i64 b, .int .u64 c, .string s, .slice A1 n1 c1] 27 (0, 0)) := by rw [hW1]; exact zal (zal (zal (zal (at_new _ _ s9) _) _) _) _
 have r2 : W1.heap[w.heap.size + 1 + 1]? = some (.cells #[.string ty] 9 (0, 0)) := by rw [hW1]; exact zal (zal (zal (at_new _ _ s9) _) _) _
 have r3 : W1.heap[w.heap.size + 1 + 1 + 1]? = some (.cells #[.int .i64 label] 3 (0, 0)) := by rw [hW1]; exact zal (zal (at_new _ _ s9) _) _
 have r4 : W1.heap[w.heap.size + 1 + 1 + 1 + 1]? = some (.cells #[.bool merged] 4 (0, 0)) := by rw [hW1]; exact zal (at_new _ _ s9) _
 have r5 : W1.heap[w.heap.size + 1 + 1 + 1 + 1 + 1]? = some (.cells #[.int .i64 0, .int .i64 0, .int .u64 0, .string ⟨#[]⟩, .slice none 0 0] 27 (0, 0)) := by rw [hW1]; exact at_new _ _ s9
 have HC := zaa.mk (zgs 46 #[.pointer (some ⟨w.heap.size, 0, none⟩), .pointer (some ⟨w.heap.size + 1 + 1 + 1 + 1, 0, none⟩), .pointer (some ⟨w.heap.size + 1 + 1 + 1, 0, none⟩), .pointer (some ⟨w.heap.size + 1, 0, none⟩), .pointer (some ⟨w.heap.size + 1 + 1, 0, none⟩)] label o W1 (.inl rfl) (fun w' hb => zgF A0 c0 t merged label a b c s A1 c1 n1 ty o w' _ _ _ _ _ ((hb.block _ (zai r0)).trans r0) ((hb.block _ (zai r1)).trans r1) ((hb.block _ (zai r2)).trans r2) ((hb.block _ (zai r3)).trans r3) ((hb.block _ (zai r4)).trans r4) (fun w2 hb2 => he w2 ((hb1.trans (hb.mono hb1.size)).trans (hb2.mono (Nat.le_trans hb1.size hb.size))))))
 have HB := zaa.mk hb1
 have HK := zaa.mk r5
 have HW := zaa.mk hW1
 have hmf : ∀ (fn : Fn) (first cap : Array Value) (w : World), (Instr.makeFunc fn first cap).run Try.prog w = .ok (.func fn first cap) w := fun _ _ _ _ => rfl
 clear he hb1 r0 r1 r2 r3 r4 r5 hW1
 go_enter Try.func30, Try.ntmps30
 go_wp2_with fail
 rw [← HW.out]
 refine HC.out.mono ?_
 intro e w2 hE
 cases o with
 | none =>
  obtain ⟨rfl, hb13⟩ := hE
  have q2 := (hb13.block _ (zai HK.out)).trans HK.out
  obtain ⟨p0, p1, p2, p3, p4⟩ := cells5 q2
  have f0 := free_at q2 0
  have f1 := free_at q2 1
  have f2 := free_at q2 2
  have f3 := free_at q2 3
  have f4 := free_at q2 4
  have Q13 := zaa.mk q2
  have HB13 := zaa.mk (HB.out.trans (hb13.mono HB.out.size))
  clear q2 hb13 HC
  go_wp2_with fail
  have d2 := zaf (zaf (zaf (zaf (zaf Q13.out 0 (.int .i64 0) rfl) 1 (.int .i64 0) rfl) 2 (.int .u64 0) rfl) 3 (.string ⟨#[]⟩) rfl) 4 (.slice none 0 0) rfl
  refine bodyPost_ret (zch rfl _ _ (w.heap.size + 1 + 1 + 1 + 1 + 1) 27 #[.int .i64 0, .int .i64 0, .int .u64 0, .string ⟨#[]⟩, .slice none 0 0] (0, 0) _ rfl d2 Try.underlying27 rfl k9) rfl ?_
  exact ⟨rfl, by repeat (first | exact HB13.out | refine zaR ?_ (show w.heap.size ≤ w.heap.size + 1 + 1 + 1 + 1 + 1 by omega))⟩
 | some o =>
  obtain ⟨r1, r2, r3, r4, l5⟩ := o
  obtain ⟨v13, rfl, hR13, hb13⟩ := hE
  obtain ⟨A13, c13, rfl⟩ := Kd.zbj hR13
  have q2 := (hb13.block _ (zai HK.out)).trans HK.out
  obtain ⟨p0, p1, p2, p3, p4⟩ := cells5 q2
  have f0 := free_at q2 0
  have f1 := free_at q2 1
  have f2 := free_at q2 2
  have f3 := free_at q2 3
  have f4 := free_at q2 4
  have Q13 := zaa.mk q2
  have HB13 := zaa.mk (HB.out.trans (hb13.mono HB.out.size))
  have HR13 := zaa.mk hR13
  clear q2 hR13 hb13 HC
  go_wp2_with fail
  have d2 := zaf (zaf (zaf (zaf (zaf Q13.out 0 (.int .i64 r1) rfl) 1 (.int .i64 r2) rfl) 2 (.int .u64 r3) rfl) 3 (.string r4) rfl) 4 (.slice A13 l5.length c13) rfl
  refine bodyPost_ret (zch rfl _ _ (w.heap.size + 1 + 1 + 1 + 1 + 1) 27 #[.int .i64 r1, .int .i64 r2, .int .u64 r3, .string r4, .slice A13 l5.length c13] (0, 0) _ rfl d2 Try.underlying27 rfl k9) rfl ?_
  have HR9 := Kd.R_set (Kd.R_set (Kd.R_set (Kd.R_set (Kd.R_set HR13.out Q13.out d9 0 (.int .i64 r1)) (zaf Q13.out 0 (.int .i64 r1) rfl) d9 1 (.int .i64 r2)) (zaf (zaf Q13.out 0 (.int .i64 r1) rfl) 1 (.int .i64 r2) rfl) d9 2 (.int .u64 r3)) (zaf (zaf (zaf Q13.out 0 (.int .i64 r1) rfl) 1 (.int .i64 r2) rfl) 2 (.int .u64 r3) rfl) d9 3 (.string r4)) (zaf (zaf (zaf (zaf Q13.out 0 (.int .i64 r1) rfl) 1 (.int .i64 r2) rfl) 2 (.int .u64 r3) rfl) 3 (.string r4) rfl) d9 4 (.slice A13 l5.length c13)
  exact ⟨_, rfl, Kd.zbi HR9 HB.out.size, by repeat (first | exact HB13.out | refine zaR ?_ (show w.heap.size ≤ w.heap.size + 1 + 1 + 1 + 1 + 1 by omega))⟩
def zbD (t : List (S64)) (cls mem : ByteArray) (param : Int) : ByteArray × Bool :=
 if zhO t cls mem = true then (zhy t cls mem, true)
 else if (methodAt t mem (lineL t cls)).isSome = false then (⟨#[]⟩, false)
 else if param ≥ ((methM t mem (methodAt t mem (lineL t cls))).f1.length : Int) then (⟨#[]⟩, false)
 else if param < 0 then ((methM t mem (methodAt t mem (lineL t cls))).f2, decide (param = -1))
 else ((zbG (methM t mem (methodAt t mem (lineL t cls))).f1 param).f1, true)
theorem zhk (A0 : Option Addr) (c0 : Nat) (t : List (S64)) (cls mem : ByteArray) (param : Int) (w : World) (hr0 : Kd.C k64 w A0 t.length t) (hs : Small t) (hfl : (zb5 t cls).length < 4398046511104) :
  Calls Try.prog 56 #[.slice A0 t.length c0, .string cls, .string mem, .int .i64 param] w fun e w' => e = .returned (.tuple #[.string (zbD t cls mem param).1, .bool (zbD t cls mem param).2]) ∧ Below w.heap.size w w' := by
 have hu61 := Try.underlying61
 have hu58 := Try.underlying58
 have HF := zaa.mk (zg0 A0 c0 t cls mem w hr0 hs.all hfl)
 have HM := zaa.mk (fun w' hb => zgl A0 c0 t cls mem w' (Kd.zat hr0 hb) hs : ∀ w', Below w.heap.size w w' → _)
 unfold zbD
 obtain ⟨fb, hfb⟩ : ∃ fb, fb = zhO t cls mem := ⟨_, rfl⟩
 obtain ⟨ft, hft⟩ : ∃ ft, ft = zhy t cls mem := ⟨_, rfl⟩
 obtain ⟨is, his⟩ : ∃ is, is = (methodAt t mem (lineL t cls)).isSome := ⟨_, rfl⟩
 obtain ⟨m, hm⟩ : ∃ m, m = methM t mem (methodAt t mem (lineL t cls)) := ⟨_, rfl⟩
 obtain ⟨mc, hmc⟩ : ∃ mc, mc = methC t (methodAt t mem (lineL t cls)) := ⟨_, rfl⟩
 rw [← hfb, ← hft] at HF
 rw [← his, ← hm, ← hmc] at HM
 rw [← hfb, ← hft, ← his, ← hm]
 obtain ⟨T, hT⟩ : ∃ T : ByteArray × Bool, T = (if fb = true then (ft, true) else if is = false then (⟨#[]⟩, false) else if param ≥ (m.f1.length : Int) then (⟨#[]⟩, false) else if param < 0 then (m.f2, decide (param = -1)) else ((zbG m.f1 param).f1, true)) := ⟨_, rfl⟩
 rw [← hT]
 have HT := zaa.mk hT
 clear hr0 hs hfl hfb hft his hm hmc hT
 go_enter Try.func56, Try.ntmps56
 go_wp2_with fail
 refine HF.out.mono ?_
 rintro e w1 ⟨rfl, hb1⟩
 have HB1 := zaa.mk hb1
 have HM1 := zaa.mk (HM.out w1 hb1)
 clear hb1 HF HM
 cases fb with
 | true =>
  have hT := HT.out
  simp only [if_true] at hT
  subst hT
  clear HT
  go_wp2_with fail
  exact bodyPost_ret (results_tmp2 rfl _ _ _) rfl ⟨rfl, HB1.out⟩
 | false =>
  go_wp2_with fail
  refine HM1.out.mono ?_
  rintro e w2 ⟨v, rfl, hR, hb2⟩
  obtain ⟨A2, c2, rfl, hc2, hC2⟩ := Kd.zb4 hR
  obtain ⟨W3, hW3⟩ : ∃ W3, W3 = w2.alloc (.cells #[.string m.f0, .slice A2 m.f1.length c2, .string m.f2] 61) := ⟨_, rfl⟩
  have hb3 : Below w2.heap.size w2 W3 := by rw [hW3]; exact (Below.refl _ _).alloc (Nat.le_refl _) _
  have hn : W3.heap[w2.heap.size]? = some (.cells #[.string m.f0, .slice A2 m.f1.length c2, .string m.f2] 61 (0, 0)) := by rw [hW3]; exact at_new _ _ rfl
  have hB2 := HB1.out.trans (hb2.mono HB1.out.size)
  have HB3 := zaa.mk (hB2.trans (hb3.mono hB2.size))
  have HC3 := zaa.mk (Kd.zat hC2 hb3)
  rw [hW3] at hn
  have y1 := zad hn 1
  have y2 := zad hn 2
  simp only [List.getElem?_toArray, List.getElem?_cons_zero, List.getElem?_cons_succ] at y1 y2
  have HW3 := zaa.mk hW3
  clear hR hb2 hc2 hC2 hb3 hn hB2 hW3 HM1
  cases is with
  | false =>
   have hT := HT.out
   rw [if_neg s9, if_pos rfl] at hT
   subst hT
   clear HT
   go_wp2_with fail
   rw [← HW3.out]
   exact bodyPost_ret (results_tmp2 rfl _ _ _) rfl ⟨rfl, HB3.out⟩
  | true =>
   by_cases hp : param ≥ (m.f1.length : Int)
   ·
    have hd : decide (param ≥ (m.f1.length : Int)) = true := decide_eq_true hp
    have hT := HT.out
    rw [if_neg s9, if_neg s9, if_pos hp] at hT
    subst hT
    clear hp HT
    go_wp2_with fail
    rw [← HW3.out]
    refine bodyPost_ret (results_tmp2 rfl _ _ _) rfl ⟨rfl, HB3.out⟩
   ·
    have hd : decide (param ≥ (m.f1.length : Int)) = false := decide_eq_false hp
    by_cases hn : param < 0
    ·
     have hd2 : decide (param < 0) = true := decide_eq_true hn
     have hT := HT.out
     rw [if_neg s9, if_neg s9, if_neg hp, if_pos hn] at hT
     subst hT
     clear hp hn HT
     go_wp2_with fail
     rw [← HW3.out]
     exact bodyPost_ret (results_tmp2 rfl _ _ _) rfl ⟨by first | rfl | simp, HB3.out⟩
    ·
     have hd2 : decide (param < 0) = false := decide_eq_false hn
     have hT := HT.out
     rw [if_neg s9, if_neg s9, if_neg hp, if_neg hn] at hT
     subst hT
     have p0 : 0 ≤ param := by omega
     have p1 : param < (m.f1.length : Int) := by omega
     obtain ⟨ad, hA, x0, x1⟩ := zdS HC3.out param p0 p1
     subst hA
     have HW4 := HW3.out
     rw [HW4] at x0 x1
     clear hp hn HW4 HT
     go_wp2_with fail
     rw [← HW3.out]
     refine bodyPost_ret (results_tmp2 rfl _ _ _) rfl ⟨rfl, HB3.out⟩
end Go.Proofs.YtinkbljjpafadaaTab
end

section
namespace Go.Proofs.YtinkbljjpafadaaRF
open Go.RowKit Go.Proofs.YtinkbljjpafadaaW.PrintWords
section
variable {F : Fence} {n : Nat} {P : Program}
def zh4 (P : Program) (l : Nat) (R : Ending → World → Prop) : Exit → Act → World → Prop
 | .panic ch, a, w => a.defers = [] ∧ R (.panicked ch) w
 | e, a, w => roundPost P l R e a w
theorem zej {l : Nat} {f : FuncId} {tmps : Array Value} {assign body : Code} {w : World} {R : Ending → World → Prop} (hF : F.fn f) (hfn : ∃ fn, P.funcs[f]? = some fn)
  (h : assign.wpIn (F.inRound l) n P (Exit.then (fun a₁ w₁ => ∃ w₂, (Instr.beginRound l).run P w₁ = .ok () w₂ ∧ body.wpIn (F.inRound l) n P (zh4 P l R) a₁ w₂) (fun _ _ _ => False))
   { tmps := tmps, defers := [] } w) :
  RoundIn F n P l f tmps assign body w R := by
 refine ⟨hF, fun c cs hr => ?_⟩
 let b : Frame := { (default : Frame) with fn := f, kind := .normal, roundOf := some l }
 have hb0 : Frame.round l f tmps assign body .normal = b.atR { tmps := tmps, defers := [] } [.code assign, .beginRound, .code body] := by
  simp [Frame.round, Frame.atR, b]
 have hr' : (F.inRound l).room ((c :: cs).length + 1 + n) := hr
 have hF' : (F.inRound l).fn b.fn := hF
 obtain ⟨e, a₁, w₁, hq, harr⟩ := h b [.beginRound, .code body] (c :: cs) rfl hF' hr'
 rw [← hb0] at harr
 cases e with
 | normal =>
  obtain ⟨w₂, hbr, hbody⟩ := hq
  have s1 : StepsIn (Machine.fenced P (F.inRound l)) P (lone (b.atR a₁ [.beginRound, .code body]) (c :: cs) w₁) (lone (b.atR a₁ [.code body]) (c :: cs) w₂) :=
   .one (fenced_calm (fr := b.atR a₁ [.beginRound, .code body]) hF' hr' rfl) (stepR_beginRound rfl hbr)
  obtain ⟨e₂, a₂, w₃, hq₂, harr₂⟩ := hbody b [] (c :: cs) rfl hF' hr'
  cases e₂ with
  | normal =>
   obtain ⟨v, w₄, hend, hR⟩ := hq₂
   exact ⟨.returned v, w₄, hR, (StepsIn.trans harr s1).trans (StepsIn.trans harr₂ (.one (fenced_calm (fr := b.atR a₂ []) hF' hr' rfl) (stepR_round_end rfl rfl hend)))⟩
  | ret =>
   obtain ⟨v, w₄, hend, hR⟩ := hq₂
   obtain ⟨k₁, hs⟩ := harr₂.2 rfl
   exact ⟨.returned v, w₄, hR, (StepsIn.trans harr s1).trans (StepsIn.trans hs (.one (fenced_calm (fr := b.atR a₂ (.code .ret :: k₁)) hF' hr' rfl) (stepR_round_ret rfl rfl hend)))⟩
  | exit id =>
   obtain ⟨v, w₄, hend, hR⟩ := hq₂
   obtain ⟨k₁, hk, hs⟩ := harr₂.2 rfl rfl
   exact ⟨.returned v, w₄, hR, (StepsIn.trans harr s1).trans (StepsIn.trans hs (.one (fenced_calm (fr := b.atR a₂ (.code (.exit id) :: k₁)) hF' hr' rfl) (stepR_round_exit rfl rfl hk hend)))⟩
  | goto t =>
   obtain ⟨v, w₄, hend, hR⟩ := hq₂
   obtain ⟨k₁, hk, hs⟩ := harr₂.2 rfl rfl
   exact ⟨.returned v, w₄, hR, (StepsIn.trans harr s1).trans (StepsIn.trans hs (.one (fenced_calm (fr := b.atR a₂ (.code (.goto t) :: k₁)) hF' hr' rfl) (stepR_round_goto rfl rfl hk hend)))⟩
  | panic ch =>
   obtain ⟨hd, hR⟩ := hq₂
   obtain ⟨todo, hs⟩ := harr₂
   have hleave : ({ b.atR a₂ todo with mode := .panicking ch } : Frame).leaving P w₃ (.panicked ch) := ⟨rfl, hd, hfn⟩
   exact ⟨.panicked ch, w₃, hR, (StepsIn.trans harr s1).trans (StepsIn.trans hs (.one (fenced_leaving (fr := { b.atR a₂ todo with mode := .panicking ch }) hF' hr' hleave) (step_leave_panicked hleave)))⟩
  | outgrown => exact hq₂.elim
 | exit id => exact hq.elim
 | goto t => exact hq.elim
 | ret => exact hq.elim
 | panic chain => exact hq.elim
 | outgrown => exact hq.elim
def zjl {α : Type} (O : Nat → Prop) (I : List α → (Nat → Prop) → World → Prop) (Ix : Code → List α → (Nat → Prop) → World → Prop) (Ip : List PanicEntry → List α → (Nat → Prop) → World → Prop) (xs : List α) (W : World) : Exit → Act → World → Prop
 | .normal, _, W' => Mv (fun k => ¬ O k) W W' ∧ I xs O W'
 | .ret, _, W' => Mv (fun k => ¬ O k) W W' ∧ Ix .ret xs O W'
 | .exit id, _, W' => Mv (fun k => ¬ O k) W W' ∧ Ix (.exit id) xs O W'
 | .goto t, _, W' => Mv (fun k => ¬ O k) W W' ∧ Ix (.goto t) xs O W'
 | .panic ch, a, W' => a.defers = [] ∧ Mv (fun k => ¬ O k) W W' ∧ Ip ch xs O W'
 | .outgrown, _, _ => False
def IterP {α : Type} (F : Fence) (n : Nat) (P : Program) (gf : Nat) (lb : Array Value) (encs : α → Array Value) (Pre S : List α → Prop) (O₀ Rd : Nat → Prop) (w : World) : Prop :=
 ∀ (l : Nat) (J Jx : List α → (Nat → Prop) → World → Prop) (Jp : List PanicEntry → List α → (Nat → Prop) → World → Prop) (O : Nat → Prop) (W : World), Stable J → Stable Jx → (∀ c, Stable (Jp c)) →
  (∀ pre x O W, J pre O W → Pre (pre ++ [x]) → (∀ k, O k → k < W.heap.size) → YieldAt F (n - 1) P l (encs x) W fun e W' =>
   (e = .returned (.bool true) ∧ J (pre ++ [x]) O W' ∧ Mv (fun k => ¬ O k ∧ ¬ Rd k) W W') ∨ (e = .returned (.bool false) ∧ Jx (pre ++ [x]) O W' ∧ Mv (fun k => ¬ O k ∧ ¬ Rd k) W W') ∨ (∃ ch, e = .panicked ch ∧ Jp ch (pre ++ [x]) O W' ∧ Mv (fun k => ¬ O k ∧ ¬ Rd k) W W')) →
  Mv (fun _ => False) w W → (∀ k, O₀ k → O k) → (∀ k, O k → k < W.heap.size) → J [] O W →
  CallsIn F n P gf (#[.func (.yield l) #[] #[]] ++ lb) W fun e W' => ((∃ v, e = .returned v) ∧
   ((∃ xs O, S xs ∧ J xs O W' ∧ ∀ k, O k → k < W'.heap.size) ∨ (∃ pre O, Jx pre O W' ∧ ∀ k, O k → k < W'.heap.size))) ∨ (∃ ch, e = .panicked ch ∧ ∃ pre O, Jp ch pre O W' ∧ ∀ k, O k → k < W'.heap.size)
end
end Go.Proofs.YtinkbljjpafadaaRF
end

section
namespace Go.Proofs.YtinkbljjpafadaaTab
open Go.RowKit Go.Proofs.Ytinkbljjpafadaa.PAll Go.Proofs.YtinkbljjpafadaaW.PrintWords Go.Proofs.YtinkbljjpafadaaW.PrintLast Go.Proofs.YtinkbljjpafadaaRF Go.Proofs.YtinkbljjpafadaaRG
attribute [local go_sem] Oper.semAt_some
def wl {α : Type} (back : Bool) (l : List α) : List α := if back = true then l.reverse else l
theorem zlO {α : Type} (back : Bool) (l : List α) : (wl back l).length = l.length := by cases back <;> simp [wl]
def encL (x : S35) : Value := .agg #[.bool x.f0, .string x.f1, .int .i64 x.f2]
theorem zgQ (A : Option Addr) (n c : Nat) (back : Bool) (w : World) :
  Calls Try.prog 55 #[.slice A n c, .bool back] w fun e w' => e = .returned (.func (.func 68) #[] #[.pointer (some ⟨w.heap.size, 0, none⟩), .pointer (some ⟨w.heap.size + 1, 0, none⟩)]) ∧
   w' = (w.alloc (.cells #[.slice A n c] 25)).alloc (.cells #[.bool back] 4) := by
 have hmf : ∀ (fn : Fn) (first cap : Array Value) (w : World), (Instr.makeFunc fn first cap).run Try.prog w = .ok (.func fn first cap) w := fun _ _ _ _ => rfl
 go_enter Try.func55, Try.ntmps55
 go_wp2
 go_ret
 exact ⟨rfl, rfl⟩
def wat (N : Nat) (back : Bool) (k : Nat) : Int := if back = true then (N : Int) - 1 - k else k
theorem zlV (N : Nat) (back : Bool) (k : Nat) (h : k < N) : 0 ≤ wat N back k ∧ wat N back k < N := by
 unfold wat; cases back <;> simp <;> omega
theorem wl_at (l : List (S35)) (back : Bool) (k : Nat) (h : k < l.length) : (wl back l)[k]? = some (za3 l (wat l.length back k)) := by
 unfold za3
 rw [List.getD_eq_getElem?_getD]
 cases back
 ·
  simp [wl, wat, h]
 ·
  have h1 : ((l.length : Int) - 1 - (k : Int)).toNat = l.length - 1 - k := by omega
  have h2 : l.length - 1 - k < l.length := by omega
  simp only [wl, wat, if_true, h1]
  rw [List.getElem?_reverse h, List.getElem?_eq_getElem h2]
  rfl
theorem zgV (n : Nat) (hn : 2 ≤ n) (A : Option Addr) (c : Nat) (l0 : List (S35)) (hN : l0.length < 4398046511104) (back : Bool) (Bl Bb n₀ : Nat) (w : World) (hn0 : n₀ ≤ w.heap.size)
  (hC : ∀ w', Below n₀ w w' → Kd.C k35 w' A l0.length l0)
  (hBl : w.heap[Bl]? = some (.cells #[.slice A l0.length c] 25 (0, 0))) (hBb : w.heap[Bb]? = some (.cells #[.bool back] 4 (0, 0))) :
  IterP Fence.wide n Try.prog 68 #[.pointer (some ⟨Bl, 0, none⟩), .pointer (some ⟨Bb, 0, none⟩)] (fun x : S35 => #[encL x]) (fun l => l <+: wl back l0) (fun l => l = wl back l0) (fun k => k = Bl ∨ k = Bb) (fun k => k < n₀) w := by
 intro l J Jx Jp O W hJ hJx hJp hY hmv hO hOl h0
 have hn1 : 1 ≤ n - 1 := by omega
 have hB1 := hmv.at hBl (fun h => h)
 have hB2 := hmv.at hBb (fun h => h)
 have hbw : Below n₀ w W := hmv.below hn0 (fun _ h => h.elim)
 have hu35 := Try.underlying35
 refine callsIn_of_wp Try.func68 rfl trivial ?_ rfl
 simp only [Try.ntmps68, List.size_toArray, List.length_cons, List.length_nil, Nat.reduceAdd, Nat.reduceSub, Array.replicate_succ, Array.replicate_zero, List.push_toArray, List.append_toArray, List.nil_append, List.cons_append]
 have hc1 := zad hB1 0
 have hc2 := zad hB2 0
 simp only [List.getElem?_toArray, List.getElem?_cons_zero] at hc1 hc2
 have HC := zaa.mk hC
 clear hC
 gi_wp2
 gi_loopw [7, 4] (fun v7 v4 wr => ∃ k : Nat, k ≤ l0.length ∧ v7 = .int .i64 k ∧ zaa (J ((wl back l0).take k) O wr ∧ (∀ k, O k → k < wr.heap.size) ∧ wr.heap[Bl]? = some (.cells #[.slice A l0.length c] 25 (0, 0)) ∧ wr.heap[Bb]? = some (.cells #[.bool back] 4 (0, 0)) ∧ Below n₀ w wr))
  (fun v7 _ _ => l0.length - (intOf v7).toNat)
 case atStart => exact ⟨0, Nat.zero_le _, rfl, ⟨by simpa using h0, hOl, hB1, hB2, hbw⟩⟩
 case round =>
  clear hc1 hc2
  obtain ⟨k, hk, rfl, ⟨hj, hol, hb1, hb2, hb⟩⟩ := hrel
  have hc1 := zad hb1 0
  have hc2 := zad hb2 0
  simp only [List.getElem?_toArray, List.getElem?_cons_zero] at hc1 hc2
  by_cases hlt : k < l0.length
  ·
   obtain ⟨i0, i1⟩ := zlV l0.length back k hlt
   obtain ⟨ad, hA, x0, x1, x2⟩ := zcR (HC.out wr hb) (wat l0.length back k) i0 i1
   subst hA
   have hat := wl_at l0 back k hlt
   have htk : (wl back l0).take (k + 1) = (wl back l0).take k ++ [za3 l0 (wat l0.length back k)] := by rw [List.take_add_one, hat]; rfl
   obtain ⟨x, hx⟩ : ∃ x, x = za3 l0 (wat l0.length back k) := ⟨_, rfl⟩
   rw [← hx] at htk x0 x1 x2
   obtain ⟨fn, tmps, assign, body, hy, hR⟩ := hY _ x O wr hj ⟨(wl back l0).drop (k + 1), by rw [← htk, List.take_append_drop]⟩ hol
   have HR := zaa.mk hR
   have HJ := zaa.mk hj
   have HOL := zaa.mk hol
   have HB1 := zaa.mk hb1
   have HB2 := zaa.mk hb2
   have HB := zaa.mk hb
   have HTK := zaa.mk htk
   clear hR hj hol hb1 hb2 hb h0 hOl hB1 hB2 hBl hBb hY hbw hx hat htk
   simp only [encL] at hy
   cases back
   all_goals
    have ht2 : ((l0.length : Int) - 1 - (k : Int)).toNat = l0.length - 1 - k := by omega
    simp only [wat, Bool.false_eq_true, if_false, if_true] at x0 x1 x2 i0 i1
    simp only [Int.toNat_natCast, ht2] at x0 x1 x2
    clear ht2
    gi_wp2
    refine ⟨fun _ => by omega, HR.out.mono ?_⟩
    rintro e W3 (⟨rfl, hJ3, hm3⟩ | ⟨rfl, hJx3, hm3⟩ | ⟨ch, rfl, hJp3, hm3⟩)
    ·
     have hb1' := hm3.at HB1.out (fun h => h.1 (hO _ (.inl rfl)))
     have hb2' := hm3.at HB2.out (fun h => h.1 (hO _ (.inr rfl)))
     have hbn := hm3.below (Nat.le_trans hn0 HB.out.size) (fun k h => Nat.le_of_not_lt h.2)
     have hJ3' := zaa.mk hJ3
     have hm3' := zaa.mk hm3
     have hb1' := zaa.mk hb1'
     have hb2' := zaa.mk hb2'
     have hbn' := zaa.mk (HB.out.trans hbn)
     clear hJ3 hm3 hy hc1 hc2 hbn
     gi_wp2
     go_roundw
     case rel => exact ⟨k + 1, by omega, by go_num, ⟨by rw [HTK.out]; exact hJ3'.out, fun j hj => Nat.lt_of_lt_of_le (HOL.out j hj) hm3'.out.size, hb1'.out, hb2'.out, hbn'.out⟩⟩
     case measure => simp [intOf]; omega
    ·
     have hJx3' := zaa.mk hJx3
     have hm3' := zaa.mk hm3
     clear hJx3 hm3 hy hc1 hc2
     gi_wp2
     refine bodyPost_ret (results_none rfl _ _ _) rfl ?_
     exact .inl ⟨⟨_, rfl⟩, .inr ⟨_, O, hJx3'.out, fun j hj => Nat.lt_of_lt_of_le (HOL.out j hj) hm3'.out.size⟩⟩
    ·
     exact ⟨rfl, .inr ⟨ch, rfl, _, O, hJp3, fun j hj => Nat.lt_of_lt_of_le (HOL.out j hj) hm3.size⟩⟩
  ·
   have HJ := zaa.mk hj
   have HOL := zaa.mk hol
   have hkN : k = l0.length := by omega
   have HK := zaa.mk hkN
   clear hj hol hb1 hb2 hb h0 hOl hB1 hB2 hBl hBb hY hkN hbw
   gi_wp2
   go_end0
   exact .inl ⟨⟨_, rfl⟩, .inl ⟨_, O, rfl, by have := HJ.out; rw [HK.out, ← zlO back l0, List.take_length] at this; exact this, HOL.out⟩⟩
def EntZ (n₀ : Nat) (Z : Nat → Prop) (label : Int) (w : World) (o : Option Val) (e : Ending) (w' : World) : Prop :=
 match o with
 | some (a, b, c, s, l) => ∃ v, e = .returned (.agg #[.int .i64 a, .int .i64 b, .int .u64 c, .string s, v]) ∧ Kd.R k35 35 w' n₀ (fun _ => True) v l ∧ Mv Z w w'
 | none => e = .panicked [{ v := .iface 113 (.agg #[.int .i64 label]), recovered := false }] ∧ Mv Z w w'
def CauZ (n₀ : Nat) (Z : Nat → Prop) (label : Int) (w : World) (o : Option Val) (e : Ending) (w' : World) : Prop :=
 match o with
 | some (a, b, c, s, l) => ∃ v, e = .returned (.tuple #[.agg #[.int .i64 a, .int .i64 b, .int .u64 c, .string s, v], .int .i64 0]) ∧ Kd.R k35 35 w' n₀ (fun _ => True) v l ∧ Mv Z w w'
 | none => e = .returned (.tuple #[.agg #[.int .i64 0, .int .i64 0, .int .u64 0, .string ⟨#[]⟩, .slice none 0 0], .int .i64 label]) ∧ Mv Z w w'
theorem zlS {Z : Nat → Prop} {A B C : World} (h : Mv Z A B) (k : Below A.heap.size B C) : Mv Z A C :=
 ⟨k.os.trans h.os, k.tape.trans h.tape, k.output.trans h.output, Nat.le_trans h.size k.size, fun i hi ho => (k.block i hi).trans (h.block i hi ho)⟩
theorem zfZ (n₀ : Nat) (Z : Nat → Prop) (g : Nat) (caps : Array Value) (label : Int) (o : Option Val) (w : World) (hg : g = 46 ∨ g = 54)
  (hn0 : n₀ ≤ w.heap.size) (hZ : ∀ k, Z k → n₀ ≤ k ∧ k < w.heap.size) (hdo : ∀ w', Below w.heap.size w w' → Calls Try.prog g caps w' (EntZ n₀ Z label w' o)) :
  Calls Try.prog 45 #[.func (.func g) #[] caps] w (CauZ n₀ Z label w o) := by
 have hu27 := Try.underlying27
 obtain ⟨W2, hW2⟩ : ∃ W2, W2 = (w.alloc (.cells #[.int .i64 0, .int .i64 0, .int .u64 0, .string ⟨#[]⟩, .slice none 0 0] 27)).alloc (.cells #[.int .i64 0] 3) := ⟨_, rfl⟩
 have hb2 : Below w.heap.size w W2 := by rw [hW2]; exact ((Below.refl _ _).alloc (Nat.le_refl _) _).alloc s9 _
 have k0 : W2.heap[w.heap.size]? = some (.cells #[.int .i64 0, .int .i64 0, .int .u64 0, .string ⟨#[]⟩, .slice none 0 0] 27 (0, 0)) := by rw [hW2]; exact zal (at_new _ _ rfl) _
 have k1 : W2.heap[w.heap.size + 1]? = some (.cells #[.int .i64 0] 3 (0, 0)) := by rw [hW2]; exact at_new _ _ s9
 have HDO := zaa.mk (hdo W2 hb2)
 have HB2 := zaa.mk hb2
 have HK := zaa.mk (And.intro k0 k1)
 have HW2 := zaa.mk hW2
 have hmf : ∀ (fn : Fn) (first cap : Array Value) (w : World), (Instr.makeFunc fn first cap).run Try.prog w = .ok (.func fn first cap) w := fun _ _ _ _ => rfl
 clear hdo hb2 k0 k1 hW2
 rcases hg with rfl | rfl
 all_goals
  go_enter_defers Try.func45, Try.ntmps45
  go_wp2_with fail
  rw [← HW2.out]
  refine HDO.out.mono ?_
  intro e w3 hE
  cases o with
  | none =>
   obtain ⟨rfl, hb3⟩ := hE
   have hk0 := hb3.at HK.out.1 (fun e => by have := (hZ _ e).2; omega)
   have hk1 := hb3.at HK.out.2 (fun e => by have := (hZ _ e).2; omega)
   have hB3 := (Mv.zb2 HB2.out Z).trans hb3
   refine leaves_cons (f := 63) (args := #[.pointer (some ⟨w.heap.size, 0, none⟩), .pointer (some ⟨w.heap.size + 1, 0, none⟩)]) s9 (by simp [go_sem]) ?_
   refine (zeg _ _ label 0 _ _ _ _ _ w3 hk0 hk1).mono ?_
   rintro e u' w4 ⟨rfl, rfl, h4, h5, h6⟩
   exact ⟨_, zdo _ _ w.heap.size (w.heap.size + 1) _ _ _ _ _ _ rfl rfl h4 h5, rfl, zlS hB3 (h6 _ (Nat.le_refl _) o9)⟩
  | some o =>
   obtain ⟨a, b, c, s, l⟩ := o
   obtain ⟨v, rfl, hR, hb3⟩ := hE
   obtain ⟨A3, c3, rfl⟩ := Kd.zbj hR
   have hk0 := hb3.at HK.out.1 (fun e => by have := (hZ _ e).2; omega)
   have hk1 := hb3.at HK.out.2 (fun e => by have := (hZ _ e).2; omega)
   have hB3 := (Mv.zb2 HB2.out Z).trans hb3
   obtain ⟨p0, p1, p2, p3, p4⟩ := cells5 hk0
   have f0 := free_at hk0 0
   have f1 := free_at hk0 1
   have f2 := free_at hk0 2
   have f3 := free_at hk0 3
   have f4 := free_at hk0 4
   have q0 := zad hk1 0
   have g0 := free_at hk1 0
   simp only [List.getElem?_toArray, List.getElem?_cons_zero] at q0
   have K0 := zaa.mk hk0
   have K1 := zaa.mk hk1
   have HR := zaa.mk hR
   have HB3 := zaa.mk hB3
   have HN0 := zaa.mk hn0
   clear hk0 hk1 hR hB3 hb3 HDO HK HB2 HW2 hn0 hZ
   go_wp2_with fail
   refine leaves_cons (f := 63) (args := #[.pointer (some ⟨w.heap.size, 0, none⟩), .pointer (some ⟨w.heap.size + 1, 0, none⟩)]) s9 (by simp [go_sem]) ?_
   refine (zeG _ _ _).mono ?_
   rintro e u' w4 ⟨rfl, rfl, rfl⟩
   have d2 := zaf (zaf (zaf (zaf (zaf K0.out 0 (.int .i64 a) rfl) 1 (.int .i64 b) rfl) 2 (.int .u64 c) rfl) 3 (.string s) rfl) 4 (.slice A3 l.length c3) rfl
   have HR9 := Kd.R_set (Kd.R_set (Kd.R_set (Kd.R_set (Kd.R_set HR.out K0.out d9 0 (.int .i64 a)) (zaf K0.out 0 (.int .i64 a) rfl) d9 1 (.int .i64 b)) (zaf (zaf K0.out 0 (.int .i64 a) rfl) 1 (.int .i64 b) rfl) d9 2 (.int .u64 c)) (zaf (zaf (zaf K0.out 0 (.int .i64 a) rfl) 1 (.int .i64 b) rfl) 2 (.int .u64 c) rfl) d9 3 (.string s)) (zaf (zaf (zaf (zaf K0.out 0 (.int .i64 a) rfl) 1 (.int .i64 b) rfl) 2 (.int .u64 c) rfl) 3 (.string s) rfl) d9 4 (.slice A3 l.length c3)
   have e1 := zby (zby (zby (zby (zby K1.out s9 (.int .i64 a) (p := ⟨w.heap.size, 0, none⟩)) s9 (.int .i64 b) (p := ⟨w.heap.size, 1, none⟩)) s9 (.int .u64 c) (p := ⟨w.heap.size, 2, none⟩)) s9 (.string s) (p := ⟨w.heap.size, 3, none⟩)) s9 (.slice A3 l.length c3) (p := ⟨w.heap.size, 4, none⟩)
   refine ⟨_, zdo _ _ w.heap.size (w.heap.size + 1) (.int .i64 a) (.int .i64 b) (.int .u64 c) (.string s) (.slice A3 l.length c3) 0 rfl rfl (zby d2 s9 _) (zaf e1 0 _ rfl), _, rfl, Kd.R_set HR9 e1 d9 0 _, ?_⟩
   exact Mv.setCell (Mv.setCell (Mv.setCell (Mv.setCell (Mv.setCell (Mv.setCell HB3.out (.inr (Nat.le_refl _)) _) (.inr (Nat.le_refl _)) _) (.inr (Nat.le_refl _)) _) (.inr (Nat.le_refl _)) _) (.inr (Nat.le_refl _)) _) (.inr s9) _
def okT (F : S35 → Val → Option Val) (l : List (S35)) (v : Val) : Option Val := l.foldl (fun o x => o.bind (F x)) (some v)
def runT (F : S35 → Val → Option Val) : List (S35) → Val → Option Val × Int
 | [], v => (some v, 0)
 | x :: r, v => match F x v with
  | some v' => runT F r v'
  | none => (none, x.f2)
theorem zgc {F : S35 → Val → Option Val} {x : S35} {v v' : Val} (h : F x v = some v') (r : List (S35)) : runT F (x :: r) v = runT F r v' := by
 rw [runT, h]
theorem zgr {F : S35 → Val → Option Val} {x : S35} {v : Val} (h : F x v = none) (r : List (S35)) : runT F (x :: r) v = (none, x.f2) := by
 rw [runT, h]
theorem zfz (F : S35 → Val → Option Val) (l : List (S35)) (x : S35) (v : Val) : okT F (l ++ [x]) v = (okT F l v).bind (F x) := by
 unfold okT; rw [List.foldl_append]; rfl
theorem zhz (F : S35 → Val → Option Val) (l : List (S35)) : l.foldl (fun (o : Option Val) x => o.bind (F x)) none = none := by
 induction l with
 | nil => rfl
 | cons x r ih => exact ih
theorem zf7 (F : S35 → Val → Option Val) : ∀ (l r : List (S35)) (v u : Val), okT F l v = some u → runT F (l ++ r) v = runT F r u
 | [], r, v, u, h => by
  obtain rfl := Option.some.inj h
  rfl
 | x :: l, r, v, u, h => by
  have h' : l.foldl (fun o x => o.bind (F x)) (F x v) = some u := h
  cases hx : F x v with
  | none => rw [hx, zhz] at h'; cases h'
  | some v' =>
   rw [hx] at h'
   show runT F (x :: (l ++ r)) v = runT F r u
   rw [zgc hx]
   exact zf7 F l r v' u h'
theorem zkw (F : S35 → Val → Option Val) {l : List (S35)} {v u : Val} (h : okT F l v = some u) : runT F l v = (some u, 0) := by
 have := zf7 F l [] v u h
 rwa [List.append_nil] at this
theorem zfr (F : S35 → Val → Option Val) {l pre : List (S35)} {x : S35} {v u : Val} (h : okT F pre v = some u) (hx : F x u = none) (hp : pre ++ [x] <+: l) : runT F l v = (none, x.f2) := by
 obtain ⟨r, rfl⟩ := hp
 rw [List.append_assoc, zf7 F pre _ v u h]
 exact zgr hx r
end Go.Proofs.YtinkbljjpafadaaTab
end

section
namespace Go.Proofs.YtinkbljjpafadaaRF
open Go.RowKit Go.Proofs.YtinkbljjpafadaaW.PrintWords
section
variable {F : Fence} {n : Nat} {P : Program} {Q : Exit → Act → World → Prop} {a : Act} {w : World}
def wpV (F : Fence) (n : Nat) (P : Program) (c : Code) (Q : Exit → Act → World → Prop) (a : Act) (w : World) : Prop :=
 ∀ (b : Frame) (k : List Item) (cs : List Frame), b.roundOf = F.round → F.fn b.fn → (∃ fn, P.funcs[b.fn]? = some fn) → F.room (cs.length + 1 + n) →
  ∃ e a' w', Q e a' w' ∧ ArrivesIn (Machine.fenced P F) P (lone (b.atR a (.code c :: k)) cs w) b k cs e a' w'
theorem zjH {c : Code} (h : c.wpIn F n P Q a w) : wpV F n P c Q a w := fun b k cs h1 h2 _ h3 => h b k cs h1 h2 h3
theorem ziW {x y : Code} (h : wpV F n P x (Exit.then (wpV F n P y Q) Q) a w) : wpV F n P (Code.seq x y) Q a w := by
 intro b k cs hro hb hv hr
 have h0 : (lone (b.atR a (.code (.seq x y) :: k)) cs w).fenced P F := fenced_calm hb hr rfl
 obtain ⟨e, a₁, w₁, hq, harr⟩ := h b (.code y :: k) cs hro hb hv hr
 cases e
 case normal =>
  obtain ⟨e₂, a₂, w₂, hq₂, harr₂⟩ := hq b k cs hro hb hv hr
  exact ⟨e₂, a₂, w₂, hq₂, .of_steps (.head h0 stepR_seq harr) harr₂⟩
 all_goals exact ⟨_, a₁, w₁, hq, .of_steps (.one h0 stepR_seq) (.pass (x := .code y) rfl (fun _ _ => .inl s9) harr)⟩
theorem zcA {x y : Code} (h : ∀ K : Act → World → Prop, (∀ a w, wpV F n P y Q a w → K a w) → x.wpIn F n P (Exit.then K Q) a w) : wpV F n P (Code.seq x y) Q a w :=
 ziW (zjH (h _ fun _ _ h => h))
theorem ziB {id : Nat} {c : Code} (h : wpV F n P c (fun e a w => match e with | .normal => Q .normal a w | .panic ch => Q (.panic ch) a w | _ => False) a w) : wpV F n P (Code.block id c) Q a w := by
 intro b k cs hro hb hv hr
 have h0 : (lone (b.atR a (.code (.block id c) :: k)) cs w).fenced P F := fenced_calm hb hr rfl
 obtain ⟨e, a₁, w₁, hq, harr⟩ := h b (.inBlock id :: k) cs hro hb hv hr
 cases e
 case normal => exact ⟨.normal, a₁, w₁, hq, .head h0 stepR_block (StepsIn.trans harr (.one (fenced_calm hb hr rfl) stepR_inBlock))⟩
 case panic ch => exact ⟨_, a₁, w₁, hq, .of_steps (.one h0 stepR_block) harr⟩
 all_goals exact hq.elim
theorem zdq {f : FuncId} {fn : Func} {c : Code} {args : Array Value} {w : World} {R : Ending → World → Prop}
  (hf : P.funcs[f]? = some fn) (hb : fn.body = some c) (hF : F.fn f)
  (h : wpV F n P c (bodyPostM F n P fn R) { tmps := args ++ Array.replicate (fn.ntmps - args.size) undef, defers := [] } w) (hro : F.round = none) : CallsIn F n P f args w R := by
 refine ⟨hF, fun cs hr => ?_⟩
 obtain ⟨b, hbd⟩ : ∃ b : Frame, b = { (default : Frame) with fn := f, kind := .normal, roundOf := none } := ⟨_, rfl⟩
 have hfn : b.fn = f := by rw [hbd]
 have henter : Frame.enter P f args .normal = b.atR { tmps := args ++ Array.replicate (fn.ntmps - args.size) undef, defers := [] } [.code c] := by
  simp [Frame.enter, Frame.atR, hf, hb, hbd]
 have hround : b.roundOf = none := by rw [hbd]
 obtain ⟨e, a', w', hq, harr⟩ := h b [] cs (hround.trans hro.symm) (hfn ▸ hF) ⟨fn, hfn ▸ hf⟩ hr
 rw [← henter] at harr
 have fin : ∀ (u : FrameMode) (todo : List Item), LeavesInM F n P fn a'.tmps R a'.defers u w' → StepsIn (Machine.fenced P F) P (lone (Frame.enter P f args .normal) cs w) (lone { b.atR a' todo with mode := u } cs w') →
   ∃ e w'' fr, R e w'' ∧ ComesIn (Machine.fenced P F) P (lone (Frame.enter P f args .normal) cs w) (lone fr cs w'') e ∧ fr.fn = f ∧ fr.leaving P w'' e := fun u todo hl hs0 => by
  subst hbd
  obtain ⟨e', w'', fr', hR, hs, hfn', hl'⟩ := leaves_stepsInM a'.defers u w' { ({ (default : Frame) with fn := f, kind := .normal, roundOf := none } : Frame).atR a' todo with mode := u } cs rfl rfl rfl hf rfl hF hr hl
  exact ⟨e', w'', fr', hR, ComesIn.of_steps hs0 hs, hfn', hl'⟩
 cases e
 case normal => exact fin .returning [] hq (StepsIn.trans harr (.one (fenced_calm (fr := b.atR a' []) (hfn ▸ hF) hr rfl) (stepR_end hround)))
 case ret =>
  obtain ⟨todo, hs⟩ := harr.1 hround
  exact fin .returning todo hq hs
 case panic ch =>
  obtain ⟨todo, hs⟩ := harr
  exact fin (.panicking ch) todo hq hs
 case exit id => exact hq.elim
 case goto l => exact hq.elim
 case outgrown => exact ⟨.outgrown, w', b, hq, harr.resolve_left (by subst hbd; simp), hfn, trivial⟩
theorem zfG {g : Operand} {ps : Array Tmp} {assign body : Code}
  (h : ∀ fn, F.fn fn → (∃ f0, P.funcs[fn]? = some f0) → ∃ (l : Nat) (mark : List Deferred) (w₁ : World) (d : Deferred) (w₁' : World) (f : FuncId) (args : Array Value) (w₂ : World),
   (Instr.enterLoop fn a.tmps ps assign body F.round).run P w = .ok (l, mark) w₁ ∧ (resolve a.eval (rangeCall g l) 0).run P w₁ = .ok d w₁' ∧
   (∀ f', Target.leads P w₁' d.target d.args = some f' → F.fn f') ∧ (invoke d.target d.args).run P w₁' = .ok (.enter f args) w₂ ∧ (F.depth.isSome = true → 1 ≤ n) ∧
   CallsIn F (n - 1) P f args w₂ (rangePost F n P l Q { a with defers := mark ++ a.defers })) : wpV F n P (Code.rangeFunc g ps assign body) Q a w := by
 intro b k cs hro hb hv hr
 obtain ⟨l, mark, w₁, d, w₁', f, args, w₂, he, hres, hlead, hinv, hn, hF, hcall⟩ := h b.fn hb hv
 rw [← hro] at he
 have h0 : (lone (b.atR a (.code (.rangeFunc g ps assign body) :: k)) cs w).fenced P F := by
  refine fenced_lone (.inl hb) (fun f' hf' => hlead f' ?_) (Fence.room_le hr o9)
  have hev := Frame.eval_atR b a (.code (.rangeFunc g ps assign body) :: k)
  simp only [Frame.atR] at hev
  simp only [Frame.about, Frame.atR, he, hev, hres] at hf'
  exact hf'
 have hin := stepR_rangeFunc (P := P) (b := b) (a := a) (k := k) (cs := cs) (w := w) he hres hinv
 have hroom : F.room ((b.atR { a with defers := mark ++ a.defers } (.inRangeFunc l :: k) :: cs).length + 1 + (n - 1)) := Fence.room_enter hr hn
 obtain ⟨e, w₃, fr, hR, hgo, hfn, hout⟩ := hcall (b.atR { a with defers := mark ++ a.defers } (.inRangeFunc l :: k) :: cs) hroom
 cases e
 case outgrown =>
  obtain ⟨a₀, w₀, hq⟩ := hR
  exact ⟨.outgrown, a₀, w₀, hq, .inr (Outgrown.of_steps (.one hin) hgo)⟩
 case panicked ch =>
  have hl : (lone fr (b.atR { a with defers := mark ++ a.defers } (.inRangeFunc l :: k) :: cs) w₃).fenced P F := fenced_leaving (hfn ▸ hF) hroom hout
  refine ⟨.panic ch, _, w₃, hR, .inRangeFunc l :: k, .head h0 hin (StepsIn.trans hgo (.one hl ?_))⟩
  rw [← Frame.raise_atR]; exact step_leave_panicked hout
 case returned v =>
  have hl : (lone fr (b.atR { a with defers := mark ++ a.defers } (.inRangeFunc l :: k) :: cs) w₃).fenced P F := fenced_leaving (hfn ▸ hF) hroom hout
  obtain ⟨jump, w₄, hend, hj⟩ := hR
  have back : StepsIn (Machine.fenced P F) P (lone (b.atR a (.code (.rangeFunc g ps assign body) :: k)) cs w) (lone (b.atR { a with defers := mark ++ a.defers } ((jump.map Item.code).toList ++ k)) cs w₄) := by
   refine .head h0 hin (StepsIn.trans hgo (.head hl ?_ (.one (fenced_calm (fr := b.atR { a with defers := mark ++ a.defers } (.endRangeFunc l :: k)) hb hr rfl) (stepR_endRangeFunc hend))))
   rw [← finish_atR_inRangeFunc l v]; exact step_leave_returned hout
  cases jump
  case none => exact ⟨.normal, _, w₄, hj, back⟩
  case some c =>
   obtain ⟨e', a'', w₅, hq, harr⟩ := hj b k cs hro hb hr
   exact ⟨e', a'', w₅, hq, .of_steps back harr⟩
theorem zj9 {α : Type} {g : Operand} {ps : Array Tmp} {assign body : Code} {Q : Exit → Act → World → Prop} {a : Act} {w : World}
  (hro : F.round = none) (h1 : 1 ≤ n) (gf : Nat) (lb : Array Value) (hg : a.eval g = .func (.func gf) #[] lb) (hFg : F.fn gf) (eg : ∀ args w, (callFunc gf args).run P w = .ok (.enter gf args) w)
  (encs : α → Array Value) (hps : ∀ x, (encs x).size = ps.size) {Pre S : List α → Prop} (O₀ Rd : Nat → Prop) (hO₀ : ∀ k, O₀ k → k < w.heap.size) (hRd : ∀ k, Rd k → k < w.heap.size)
  (hiter : IterP F (n - 1) P gf lb encs Pre S O₀ Rd w)
  (I : List α → (Nat → Prop) → World → Prop) (Ix : Code → List α → (Nat → Prop) → World → Prop) (Ip : List PanicEntry → List α → (Nat → Prop) → World → Prop) (hI : Stable I) (hIx : ∀ c, Stable (Ix c)) (hIp : ∀ c, Stable (Ip c))
  (h0 : ∀ O, (∀ k, O k → O₀ k ∨ w.heap.size ≤ k) → ∀ W, Mv (fun _ => False) w W → I [] O W) (a₁ : α → World → Act) (gW : α → World → World) (hgW : ∀ x W, Below W.heap.size W (gW x W))
  (hassign : ∀ (l : Nat) (x : α) (W : World) (K : Act → World → Prop), K (a₁ x W) (gW x W) →
   assign.wpIn (F.inRound l) (n - 1 - 1) P (Exit.then K (fun _ _ _ => False)) { tmps := (ps.zip (encs x)).foldl (fun t (p, v) => t.setIfInBounds p v) a.tmps, defers := [] } W)
  (hbody : ∀ (l : Nat) (pre : List α) (x : α) (O : Nat → Prop) (W0 W : World), I pre O W0 → Pre (pre ++ [x]) → (∀ k, O k → k < W0.heap.size) → O l → (∃ r, W = (gW x W0).putObj l r ∧ l < W0.heap.size) → (∀ k, O₀ k → O k) → w.heap.size ≤ W0.heap.size →
   body.wpIn (F.inRound l) (n - 1 - 1) P (zjl (fun k => O k ∨ Rd k) (fun s _ W => I s O W) (fun c s _ W => Ix c s O W) (fun c s _ W => Ip c s O W) (pre ++ [x]) W) (a₁ x W0) W)
  (hdone : ∀ (D : Nat) (xs : List α) (O : Nat → Prop) (W : World), w.heap.size ≤ D → O D → (∀ k, O k → k < W.heap.size) → S xs → I xs O W → W.heap[D]? = some (.deferred (some [])) → Q .normal { a with defers := { target := .collected D, args := #[] } :: a.defers } W)
  (hstop : ∀ (D : Nat) (c : Code) (pre : List α) (O : Nat → Prop) (W : World), w.heap.size ≤ D → O D → (∀ k, O k → k < W.heap.size) → Ix c pre O W → W.heap[D]? = some (.deferred (some [])) → c.wpIn F n P Q { a with defers := { target := .collected D, args := #[] } :: a.defers } W)
  (hpanic : ∀ (D : Nat) (ch : List PanicEntry) (pre : List α) (O : Nat → Prop) (W : World), w.heap.size ≤ D → O D → (∀ k, O k → k < W.heap.size) → Ip ch pre O W → W.heap[D]? = some (.deferred (some [])) → Q (.panic ch) { a with defers := { target := .collected D, args := #[] } :: a.defers } W) :
  wpV F n P (Code.rangeFunc g ps assign body) Q a w := by
 refine zfG ?_
 intro fn hfn hfe
 obtain ⟨rec, hrec⟩ : ∃ rec : LoopState → Option Code → Loop, rec = fun s p => { state := s, pending := p, fn, tmps := a.tmps, params := ps, assign, body, defers := w.heap.size } := ⟨_, rfl⟩
 obtain ⟨W1, hW1⟩ : ∃ W1, W1 = (w.alloc (.deferred (some []))).alloc (.loop (rec .ready none)) := ⟨_, rfl⟩
 have hmv1 : Mv (fun _ => False) w W1 := by rw [hW1]; exact ((Mv.refl _ w).alloc _).alloc _
 have hsz1 : W1.heap.size = w.heap.size + 2 := by rw [hW1]; simp
 have hL1 : W1.heap[w.heap.size + 1]? = some (.loop (rec .ready none)) := by rw [hW1]; exact at_new _ _ s9
 have hK1 : W1.heap[w.heap.size]? = some (.deferred (some [])) := by rw [hW1]; exact zal (at_new _ _ rfl) _
 refine ⟨w.heap.size + 1, [{ target := .collected w.heap.size, args := #[] }], W1, { target := .fn (.func gf) lb, args := #[.func (.yield (w.heap.size + 1)) #[] #[]] }, W1, gf,
  #[.func (.yield (w.heap.size + 1)) #[] #[]] ++ lb, W1, ?_, ?_, ?_, ?_, fun _ => h1, ?_⟩
 ·
  rw [hW1, hrec, hro]; exact run_enterLoop_outer _ _ _ _ _
 ·
  simp only [resolve, hg]
  simp [go_sem, Deferred.ofValue, Act.eval]
 ·
  intro f' hf'; simp [Target.leads] at hf'; subst hf'; exact hFg
 ·
  simp [invoke, go_sem, eg]
 ·
  -- what the parties say to each other: the record and the block for deferred calls are the statement's own
  let B : (Nat → Prop) → Nat → Prop := fun O k => O k ∨ k = w.heap.size ∨ k = w.heap.size + 1
  have hBm : ∀ (O O' : Nat → Prop), (∀ k, O k → O' k) → ∀ k, B O k → B O' k := fun O O' h k hk => hk.imp (h k) id
  let J : List α → (Nat → Prop) → World → Prop := fun pre O W => I pre (B O) W ∧ Mine (w.heap.size + 1) (.loop (rec .ready none)) O W ∧ Mine w.heap.size (.deferred (some [])) O W ∧ (w.heap.size ≤ W.heap.size) ∧ (∀ k, O₀ k → O k)
  let Jx : List α → (Nat → Prop) → World → Prop := fun pre O W => (∃ c, Ix c pre (B O) W ∧ Mine (w.heap.size + 1) (.loop (rec .done (some c))) O W) ∧ Mine w.heap.size (.deferred (some [])) O W
  let Jp : List PanicEntry → List α → (Nat → Prop) → World → Prop := fun ch pre O W => (Ip ch pre (B O) W ∧ Mine w.heap.size (.deferred (some [])) O W) ∧ w.heap.size + 1 < W.heap.size
  have hBst : ∀ {γ : Type} {K : γ → (Nat → Prop) → World → Prop}, Stable K → Stable (fun s O W => K s (B O) W) := fun hK s O O' W W' hs hm h1 h2 =>
   hK s (B O) (B O') W W' hs (hm.mono (fun k _ hk => Or.inl hk)) (hBm O O' h1) (fun k hk => by
    rcases hk with hk | hk
    ·
     rcases h2 k hk with x | x
     ·
      exact .inl (.inl x)
     ·
      exact .inr x
    ·
     exact .inl (.inr hk))
  have hJ : Stable J := (hBst hI).and ((Mine.stable (fun _ => _) (fun _ => _)).and ((Mine.stable (fun _ => _) (fun _ => _)).and (fun _ _ _ _ _ hs hm h1 _ => ⟨Nat.le_trans hs.1 hm.size, fun k hk => h1 k (hs.2 k hk)⟩)))
  have hJx : Stable Jx := (Stable.ex fun c => (hBst (hIx c)).and (Mine.stable (fun _ => _) (fun _ => _))).and (Mine.stable (fun _ => _) (fun _ => _))
  have hJp : ∀ ch, Stable (Jp ch) := fun ch => ((hBst (hIp ch)).and (Mine.stable (fun _ => _) (fun _ => _))).and (fun _ _ _ _ _ hs hm _ _ => Nat.lt_of_lt_of_le hs hm.size)
  have turn : ∀ {pre : List α} {O : Nat → Prop} {W : World} (o : Obj), I pre (B O) W → I pre (B O) (W.putObj (w.heap.size + 1) o) := fun o h =>
   hI _ _ _ _ _ h ((Mv.refl _ _).putObj (.inl (.inr (.inr rfl))) o) (fun _ h => h) (fun _ h => .inl h)
  have turnx : ∀ {c : Code} {pre : List α} {O : Nat → Prop} {W : World} (o : Obj), Ix c pre (B O) W → Ix c pre (B O) (W.putObj (w.heap.size + 1) o) := fun o h =>
   hIx _ _ _ _ _ _ h ((Mv.refl _ _).putObj (.inl (.inr (.inr rfl))) o) (fun _ h => h) (fun _ h => .inl h)
  refine (hiter (w.heap.size + 1) J Jx Jp O₀ W1 hJ hJx hJp ?_ hmv1 (fun _ h => h) (fun k hk => by have := hO₀ k hk; omega)
   ⟨h0 _ (fun k hk => by rcases hk with hk | hk | hk; exact .inl hk; exact .inr o9; exact .inr o9) _ hmv1, ⟨hL1, fun e => by have := hO₀ _ e; omega⟩, ⟨hK1, fun e => by have := hO₀ _ e; omega⟩, hmv1.size, fun _ h => h⟩).mono ?_
  ·
   -- one round
   rintro pre x O W ⟨hi, ⟨hl, hlO⟩, ⟨hk, hkO⟩, hws, hOO⟩ hpre hO
   have hlt : w.heap.size + 1 < W.heap.size := zai hl
   obtain ⟨Wg, hWg⟩ : ∃ Wg, Wg = gW x W := ⟨_, rfl⟩
   have hbg : Below W.heap.size W Wg := by rw [hWg]; exact hgW x W
   have hlg := (hbg.block _ hlt).trans hl
   have hkg := (hbg.block _ (zai hk)).trans hk
   have hltg : w.heap.size + 1 < Wg.heap.size := zai hlg
   have hy := run_yield (P := P) (args := encs x) hl (by rw [hrec]; exact hps x)
   rw [hrec] at hy
   refine ⟨fn, _, assign, body, hy, zej hfn hfe (hassign _ x W _ ⟨_, (by rw [← hWg]; exact run_beginRound hlg (by rw [hrec])), ?_⟩)⟩
   have hl2 : (Wg.putObj (w.heap.size + 1) (.loop { rec .ready none with state := .busy })).heap[w.heap.size + 1]? = some (.loop { rec .ready none with state := .busy }) := World.putObj_heap_same hltg
   have hk2 : (Wg.putObj (w.heap.size + 1) (.loop { rec .ready none with state := .busy })).heap[w.heap.size]? = some (.deferred (some [])) := (World.putObj_heap_other o9).trans hkg
   have hmv2 : Mv (fun k => ¬ O k ∧ ¬ Rd k) W (Wg.putObj (w.heap.size + 1) (.loop { rec .ready none with state := .busy })) := (Mv.zb2 hbg _).putObj (.inl ⟨hlO, fun e => by have := hRd _ e; omega⟩) _
   refine wpIn_mono (hbody _ pre x (B O) W _ hi hpre (fun k hk' => by rcases hk' with h | h | h; exact hO k h; omega; omega) (.inr (.inr rfl)) ⟨_, by rw [← hWg], hlt⟩ (fun k h => .inl (hOO k h)) hws) ?_
   have fin : ∀ (jump : Option Code) (W3 : World), Mv (fun k => ¬ (B O k ∨ Rd k)) (Wg.putObj (w.heap.size + 1) (.loop { rec .ready none with state := .busy })) W3 →
     (Instr.endRound (w.heap.size + 1) jump).run P W3 = .ok (.bool jump.isNone) (W3.putObj (w.heap.size + 1) (.loop (rec (if jump.isNone then .ready else .done) jump))) ∧
     (W3.putObj (w.heap.size + 1) (.loop (rec (if jump.isNone then .ready else .done) jump))).heap[w.heap.size + 1]? = some (.loop (rec (if jump.isNone then .ready else .done) jump)) ∧
     (W3.putObj (w.heap.size + 1) (.loop (rec (if jump.isNone then .ready else .done) jump))).heap[w.heap.size]? = some (.deferred (some [])) ∧
     Mv (fun k => ¬ O k ∧ ¬ Rd k) W (W3.putObj (w.heap.size + 1) (.loop (rec (if jump.isNone then .ready else .done) jump))) := fun jump W3 hm3 => by
    have hl3 := hm3.at hl2 (fun h => h (.inl (.inr (.inr rfl))))
    have hk3 := hm3.at hk2 (fun h => h (.inl (.inr (.inl rfl))))
    have := run_endRound (P := P) jump hl3
    refine ⟨?_, World.putObj_heap_same (zai hl3), (World.putObj_heap_other o9).trans hk3, ?_⟩
    ·
     rw [hrec] at this ⊢; exact this
    ·
     refine (hmv2.trans (hm3.mono (fun k _ h => ?_))).putObj (.inl ⟨hlO, fun e => by have := hRd _ e; omega⟩) _
     exact ⟨fun e => h (.inl (.inl e)), fun e => h (.inr e)⟩
   rintro e a3 W3 hp
   cases e with
   | normal =>
    obtain ⟨hm3, hi3⟩ := hp
    obtain ⟨hr, hl4, hk4, hm4⟩ := fin none W3 hm3
    exact ⟨_, _, hr, .inl ⟨rfl, ⟨turn _ hi3, ⟨hl4, hlO⟩, ⟨hk4, hkO⟩, Nat.le_trans hws hm4.size, hOO⟩, hm4⟩⟩
   | ret =>
    obtain ⟨hm3, hi3⟩ := hp
    obtain ⟨hr, hl4, hk4, hm4⟩ := fin (some .ret) W3 hm3
    exact ⟨_, _, hr, .inr (.inl ⟨rfl, ⟨⟨.ret, turnx _ hi3, hl4, hlO⟩, hk4, hkO⟩, hm4⟩)⟩
   | exit id =>
    obtain ⟨hm3, hi3⟩ := hp
    obtain ⟨hr, hl4, hk4, hm4⟩ := fin (some (.exit id)) W3 hm3
    exact ⟨_, _, hr, .inr (.inl ⟨rfl, ⟨⟨.exit id, turnx _ hi3, hl4, hlO⟩, hk4, hkO⟩, hm4⟩)⟩
   | goto t =>
    obtain ⟨hm3, hi3⟩ := hp
    obtain ⟨hr, hl4, hk4, hm4⟩ := fin (some (.goto t)) W3 hm3
    exact ⟨_, _, hr, .inr (.inl ⟨rfl, ⟨⟨.goto t, turnx _ hi3, hl4, hlO⟩, hk4, hkO⟩, hm4⟩)⟩
   | panic ch =>
    obtain ⟨hd, hm3, hi3⟩ := hp
    have hl3 := hm3.at hl2 (fun h => h (.inl (.inr (.inr rfl))))
    have hk3 := hm3.at hk2 (fun h => h (.inl (.inr (.inl rfl))))
    exact ⟨hd, .inr (.inr ⟨ch, rfl, ⟨⟨hi3, hk3, hkO⟩, zai hl3⟩, hmv2.trans (hm3.mono (fun k _ h => ⟨fun e => h (.inl (.inl e)), fun e => h (.inr e)⟩))⟩)⟩
   | outgrown => exact hp.elim
  ·
   -- behind the iterator
   rintro e W2 (⟨⟨v, rfl⟩, (⟨xs, O, hS, ⟨hi, ⟨hl, hlO⟩, ⟨hk, hkO⟩, _⟩, hO⟩ | ⟨pre, O, ⟨⟨c, hi, hl, hlO⟩, hk, hkO⟩, hO⟩)⟩ | ⟨ch, rfl, pre, O, ⟨⟨hi, hk, hkO⟩, hlt⟩, hO⟩)
   ·
    exact ⟨none, _, by have := run_endLoop (P := P) hl (by rw [hrec]; simp); rw [hrec] at this; exact this,
     hdone _ xs (B O) _ (Nat.le_refl _) (.inr (.inl rfl)) (fun k hk' => by have := zai hl; simp; rcases hk' with h | h | h; exact hO k h; omega; omega) hS (turn _ hi) ((World.putObj_heap_other o9).trans hk)⟩
   ·
    exact ⟨some c, _, by have := run_endLoop (P := P) hl (by rw [hrec]; simp); rw [hrec] at this; exact this,
     hstop _ c pre (B O) _ (Nat.le_refl _) (.inr (.inl rfl)) (fun k hk' => by have := zai hl; simp; rcases hk' with h | h | h; exact hO k h; omega; omega) (turnx _ hi) ((World.putObj_heap_other o9).trans hk)⟩
   ·
    exact hpanic _ ch pre (B O) _ (Nat.le_refl _) (.inr (.inl rfl)) (fun k hk' => by rcases hk' with h | h | h; exact hO k h; omega; omega) hi hk
end
end Go.Proofs.YtinkbljjpafadaaRF
end
