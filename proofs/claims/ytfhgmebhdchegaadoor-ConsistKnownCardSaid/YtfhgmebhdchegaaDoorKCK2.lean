/- Parts of the proof of one statement, packed: what the program's functions compute. No conditions. -/
import Derived.Test.YtfhgmebhdchegaaDoorKCK1
import Derived.Test.YtfhgmebhdchegaaDoorKCK0
import Derived.Test.YtfhgmebhdchegaaDoorTie
import Derived.Test.YtfhgmebhdchegaaDoorCards
import Derived.ProofKit
import Derived.OpenShut
import Derived.ShutString
import Derived.LaidMore
import Derived.Lay
import Derived.LaidSub
import Derived.SevenTiedAt
import Derived.Stop.Joined
import Derived.Lib.LaidTab
import Derived.SizedLaws
set_option linter.unusedSimpArgs false
set_option linter.unusedVariables false
set_option maxRecDepth 100000
set_option maxHeartbeats 8000000
section
namespace Go.Proofs.YtfhgmebhdchegaaDoorTab
open Go.RowKit Go.Proofs.YtfhgmebhdchegaaDoor.PAll Go.Proofs.YtfhgmebhdchegaaDoorW.zai Go.Proofs.YtfhgmebhdchegaaDoorW.zas Go.Proofs.YtfhgmebhdchegaaDoorRF Go.Proofs.YtfhgmebhdchegaaDoorRG
attribute [local go_sem] Oper.semAt_some
def ascV (k : Nat) : Int := if k = 9 ∨ k = 10 ∨ k = 11 ∨ k = 12 ∨ k = 13 ∨ k = 32 then 1 else 0
structure GW (w : World) : Prop where
 out : ∀ k, k < 256 → w.cell? ⟨0, k, none⟩ = some (.int .u8 (ascV k))
theorem GW.of {w w' : World} (h : GW w) (e : w'.heap[0]? = w.heap[0]?) : GW w' := ⟨fun k hk => by
 have := h.out k hk
 simp only [World.cell?] at this ⊢
 rw [e]; exact this⟩
theorem GW.pos {w : World} (h : GW w) : 0 < w.heap.size := block_lt_of_cell (h.out 0 d9)
theorem GW.below {w w' : World} (h : GW w) (hb : Below w.heap.size w w') : GW w' := h.of (hb.block 0 h.pos)
def zd0 (s : ByteArray) (i : Nat) : UInt8 := (s[i]?).getD 0
def spB (s : ByteArray) (i : Nat) : Bool := decide (ascV (zd0 s i).toNat = 1)
def zbX (s : ByteArray) : Nat → Nat → Option Nat → List ByteArray
 | 0, _, none => []
 | 0, i, some b => [s.extract b i]
 | d + 1, i, none => if spB s i then zbX s d (i + 1) none else zbX s d (i + 1) (some i)
 | d + 1, i, some b => if spB s i then s.extract b i :: zbX s d (i + 1) none else zbX s d (i + 1) (some b)
theorem ze8 (s : ByteArray) (d i : Nat) : zbX s (d + 1) i none = if spB s i then zbX s d (i + 1) none else zbX s d (i + 1) (some i) := rfl
theorem zfg (s : ByteArray) (d i b : Nat) : zbX s (d + 1) i (some b) = if spB s i then s.extract b i :: zbX s d (i + 1) none else zbX s d (i + 1) (some b) := rfl
def stV : Option Nat → Int
 | none => -1
 | some b => (b : Int)
structure FsI (s : ByteArray) (n₀ : Nat) (w : World) (Bs : Nat) (J : List ByteArray → (Nat → Prop) → World → Prop) (pre : List ByteArray) (i : Nat) (st : Option Nat) (O : Nat → Prop) (wr : World) : Prop where
 all : pre ++ zbX s (s.size - i) i st = zbX s s.size 0 none
 le : i ≤ s.size
 st : ∀ b, st = some b → b ≤ i
 j : J pre O wr
 lt : ∀ k, O k → k < wr.heap.size
 bs : wr.heap[Bs]? = some (.cells #[.string s] 9 (0, 0))
 bl : Below n₀ w wr
 os : O Bs
theorem zew (n : Nat) (hn : 2 ≤ n) (s : ByteArray) (hs : s.size ≤ 1000000) (hasc : ∀ i, i < s.size → (zd0 s i).toNat < 128) (Bs n₀ : Nat) (w : World) (hG : GW w) (hn₀ : n₀ ≤ w.heap.size) (h0n : 0 < n₀) (hbs : n₀ ≤ Bs)
  (hBs : w.heap[Bs]? = some (.cells #[.string s] 9 (0, 0))) :
  Iter Fence.wide n Tryd.prog 91 #[.pointer (some ⟨Bs, 0, none⟩)] (fun p : ByteArray => #[.string p]) (fun l => l <+: zbX s s.size 0 none) (fun l => l = zbX s s.size 0 none) (fun k => k = Bs) (fun k => k < n₀) w := by
 intro l J Jx O W hJ hJx hY hmv hO hOl h0
 have hn1 : 1 ≤ n - 1 := by omega
 have hB1 := hmv.at hBs (fun h => h)
 refine callsIn_of_wp Tryd.func91 rfl trivial ?_ rfl
 simp only [Tryd.ntmps91, List.size_toArray, List.length_cons, List.length_nil, Nat.reduceAdd, Nat.reduceSub, Array.replicate_succ, Array.replicate_zero, List.push_toArray, List.append_toArray, List.nil_append, List.cons_append]
 gi_wp2
 gi_loopw [3, 4] (fun v3 v4 wr => ∃ (pre : List ByteArray) (i : Nat) (st : Option Nat) (O : Nat → Prop), v3 = .int .i64 (stV st) ∧ v4 = .int .i64 (i : Int) ∧ zaa (FsI s n₀ w Bs J pre i st O wr))
  (fun _ v4 _ => s.size - (intOf v4).toNat)
 case atStart =>
  refine ⟨[], 0, none, O, rfl, rfl, ⟨?_⟩⟩
  exact ⟨rfl, Nat.zero_le _, fun b h => (by cases h), h0, hOl, hB1, hmv.below o9 (fun k h => h.elim), hO _ rfl⟩
 case round =>
  obtain ⟨pre, i, st, O, rfl, rfl, ⟨hI⟩⟩ := hrel
  have hc1 := zah hI.bs 0
  simp only [List.getElem?_toArray, List.getElem?_cons_zero] at hc1
  have HI := zaa.mk hI
  clear hI h0 hB1 hBs
  by_cases hlt : i < s.size
  ·
   obtain ⟨b, hb⟩ : ∃ b : UInt8, s[i] = b := ⟨_, rfl⟩
   have hget : zd0 s i = b := by unfold zd0; rw [ByteArray.getElem?_lt' s i hlt, ← hb]; rfl
   have hb128 : b.toNat < 128 := by have := hasc i hlt; rw [hget] at this; exact this
   have hltI : (i : Int) < (s.size : Int) := by omega
   have hb0 : (0 : Int) ≤ (b.toNat : Int) := by omega
   have hb1 : (b.toNat : Int) < 128 := by omega
   have hb2 : (b.toNat : Int) < 256 := by omega
   have hwr : GW wr := hG.of (HI.out.bl.block 0 h0n)
   have hcell := hwr.out b.toNat o9
   have hdd : s.size - i = (s.size - (i + 1)) + 1 := by omega
   have hall := HI.out.all
   have hj := HI.out.j
   have hlt' := HI.out.lt
   have hle := HI.out.st
   have hbs1 := HI.out.bs
   have hbl := HI.out.bl
   have hos := HI.out.os
   rw [hdd] at hall
   have hsp : spB s i = decide (ascV b.toNat = 1) := by unfold spB; rw [hget]
   have HALL := zaa.mk hall
   have HSP := zaa.mk hsp
   have HJ1 := zaa.mk hj
   have HLT1 := zaa.mk hlt'
   have HBS1 := zaa.mk hbs1
   have HBL1 := zaa.mk hbl
   have HOS := zaa.mk hos
   have HLE := zaa.mk hle
   clear hall hsp hj hlt' hbs1 hbl hos hwr hle hdd HI
   by_cases h1 : ascV b.toNat = 1
   ·
    rw [h1] at hcell
    have hspt : spB s i = true := by rw [HSP.out]; exact decide_eq_true h1
    clear h1
    cases st with
    | none =>
     simp only [stV]
     clear hY hasc
     gi_wp2
     case roundEnd =>
      refine ⟨⟨pre, i + 1, none, O, rfl, by simp, ⟨?_, by omega, fun b h => (by cases h), HJ1.out, HLT1.out, HBS1.out, HBL1.out, HOS.out⟩⟩, by simp [intOf]; omega⟩
      have := HALL.out
      rw [ze8, if_pos hspt] at this
      exact this
    | some q =>
     simp only [stV]
     have hq0 : (0 : Int) ≤ (q : Int) := by omega
     have hq1 : (q : Int) ≤ (i : Int) := by have := HLE.out q rfl; omega
     have hi0 : (0 : Int) ≤ (i : Int) := by omega
     have hi1 : (i : Int) ≤ (s.size : Int) := by omega
     have hall := HALL.out
     rw [zfg, if_pos hspt] at hall
     obtain ⟨fn, tmps, assign, body, hy, hR⟩ := hY pre (s.extract q i) O wr HJ1.out ⟨_, by rw [← hall, List.append_assoc, List.singleton_append]⟩ HLT1.out
     have HR := zaa.mk hR
     have HA := zaa.mk hall
     clear hR hY hasc hall
     gi_wp2
     refine ⟨fun _ => by omega, HR.out.mono ?_⟩
     rintro e W3 (⟨rfl, hJ3, hm3⟩ | ⟨rfl, hJx3, hm3⟩)
     ·
      have hbs3 := hm3.at HBS1.out (fun h => h.1 HOS.out)
      have hbl3 : Below n₀ w W3 := HBL1.out.trans (hm3.below (Nat.le_trans hn₀ HBL1.out.size) (fun k h => Nat.not_lt.1 h.2))
      have hlt3 : ∀ k, O k → k < W3.heap.size := fun k hk => Nat.lt_of_lt_of_le (HLT1.out k hk) hm3.size
      have HJ3 := zaa.mk hJ3
      have HBS3 := zaa.mk hbs3
      have HBL3 := zaa.mk hbl3
      have HLT3 := zaa.mk hlt3
      clear hJ3 hm3 hy hbs3 hbl3 hlt3 hc1 hcell
      gi_wp2
      case roundEnd =>
       refine ⟨⟨pre ++ [s.extract q i], i + 1, none, O, rfl, by simp, ⟨?_, by omega, fun b h => (by cases h), HJ3.out, HLT3.out, HBS3.out, HBL3.out, HOS.out⟩⟩, by simp [intOf]; omega⟩
       rw [List.append_assoc, List.singleton_append]
       exact HA.out
     ·
      have HJ3 := zaa.mk hJx3
      have HM3 := zaa.mk hm3
      clear hJx3 hm3 hy hc1 hcell
      gi_wp2
      refine bodyPost_ret (results_none rfl _ _ _) rfl ?_
      exact ⟨⟨_, rfl⟩, .inr ⟨_, O, HJ3.out, fun j hj => Nat.lt_of_lt_of_le (HLT1.out j hj) HM3.out.size⟩⟩
   ·
    have h2 : ascV b.toNat = 0 := by unfold ascV at h1 ⊢; split at h1 <;> simp_all
    rw [h2] at hcell
    have hspf : ¬ spB s i = true := by rw [HSP.out]; simpa using h1
    clear h1 h2
    cases st with
    | none =>
     simp only [stV]
     clear hY hasc
     gi_wp2
     case roundEnd =>
      refine ⟨⟨pre, i + 1, some i, O, rfl, by simp, ⟨?_, by omega, fun b h => (by cases h; omega), HJ1.out, HLT1.out, HBS1.out, HBL1.out, HOS.out⟩⟩, by simp [intOf]; omega⟩
      have := HALL.out
      rw [ze8, if_neg hspf] at this
      exact this
    | some q =>
     simp only [stV]
     have hq0 : (0 : Int) ≤ (q : Int) := by omega
     clear hY hasc
     gi_wp2
     case roundEnd =>
      refine ⟨⟨pre, i + 1, some q, O, rfl, by simp, ⟨?_, by omega, fun b h => (by cases h; have := HLE.out q rfl; omega), HJ1.out, HLT1.out, HBS1.out, HBL1.out, HOS.out⟩⟩, by simp [intOf]; omega⟩
      have := HALL.out
      rw [zfg, if_neg hspf] at this
      exact this
  ·
   have hie : i = s.size := by have := HI.out.le; omega
   subst hie
   have hall := HI.out.all
   rw [Nat.sub_self] at hall
   have HJ1 := zaa.mk HI.out.j
   have HLT1 := zaa.mk HI.out.lt
   have HLE := zaa.mk HI.out.st
   clear hasc
   cases st with
   | none =>
    simp only [stV]
    have HA := zaa.mk (show pre = zbX s s.size 0 none by rw [← hall]; simp [zbX])
    clear hall hY HI
    gi_wp2
    refine bodyPost_end (results_none rfl _ _ _) rfl ?_
    exact ⟨⟨_, rfl⟩, .inl ⟨pre, O, HA.out, HJ1.out, HLT1.out⟩⟩
   | some q =>
    simp only [stV]
    have HA := zaa.mk (show pre ++ [s.extract q s.size] = zbX s s.size 0 none by rw [← hall]; rfl)
    have hq0 : (0 : Int) ≤ (q : Int) := by omega
    have hq1 : (q : Int) ≤ (s.size : Int) := by have := HLE.out q rfl; omega
    obtain ⟨fn, tmps, assign, body, hy, hR⟩ := hY pre (s.extract q s.size) O wr HJ1.out ⟨[], by rw [HA.out]; simp⟩ HLT1.out
    have HR := zaa.mk hR
    clear hall hY hR HI
    gi_wp2
    refine ⟨fun _ => by omega, HR.out.mono ?_⟩
    rintro e W3 (⟨rfl, hJ3, hm3⟩ | ⟨rfl, hJx3, hm3⟩)
    ·
     have HJ3 := zaa.mk hJ3
     have HM3 := zaa.mk hm3
     clear hJ3 hm3 hy
     gi_wp2
     refine bodyPost_end (results_none rfl _ _ _) rfl ?_
     exact ⟨⟨_, rfl⟩, .inl ⟨_, O, HA.out, HJ3.out, fun j hj => Nat.lt_of_lt_of_le (HLT1.out j hj) HM3.out.size⟩⟩
    ·
     have HJ3 := zaa.mk hJx3
     have HM3 := zaa.mk hm3
     clear hJx3 hm3 hy
     gi_wp2
     refine bodyPost_end (results_none rfl _ _ _) rfl ?_
     exact ⟨⟨_, rfl⟩, .inr ⟨_, O, HJ3.out, fun j hj => Nat.lt_of_lt_of_le (HLT1.out j hj) HM3.out.size⟩⟩
end Go.Proofs.YtfhgmebhdchegaaDoorTab
end

section
namespace Go.Proofs.YtfhgmebhdchegaaDoorWords
open Go.RowKit Go.Proofs.YtfhgmebhdchegaaDoorW.zai Go.Proofs.YtfhgmebhdchegaaDoorW.zas Go.Proofs.YtfhgmebhdchegaaDoorRF Go.Proofs.YtfhgmebhdchegaaDoorRG
attribute [local go_sem] Oper.semAt_some
theorem zfN (s : ByteArray) (w : World) (hs : s.size ≤ maxLen) :
  Calls Tryd.prog 64 #[.string s, .func (.func 78) #[] #[]] w fun e w' => e = .returned (.bool (word small s)) ∧ Below w.heap.size w w' := by
 unfold maxLen at hs
 have hsz : s.toList.length = s.size := by rw [ByteArray.toList_eq, Array.length_toList]; rfl
 by_cases h0 : s.toList = []
 ·
  have h0b : (!s.toList.isEmpty) = false := by rw [h0]; rfl
  have hw : word small s = false := by
   unfold word
   have : s.size = 0 := by rw [← hsz, h0]; rfl
   rw [this]; rfl
  have HW := zaa.mk hw
  clear hw hsz
  go_enter Tryd.func64, Tryd.ntmps64
  go_wp2
  go_ret
  exact ⟨by rw [HW.out]; rfl, (Below.refl _ _).alloc (Nat.le_refl _) _⟩
 have h0b : (!s.toList.isEmpty) = true := by cases h : s.toList <;> simp_all
 have h0c : s.toList.isEmpty = false := by simpa using h0b
 have hpos : 0 < s.size := by rw [← hsz]; exact List.length_pos_iff.2 h0
 by_cases h20 : 20 < s.size
 ·
  have hw : word small s = false := by
   unfold word
   rw [show decide (s.size ≤ 20) = false by simpa using h20]
   simp
  have hd : decide (20 < (s.size : Int)) = true := by simp; omega
  have HW := zaa.mk hw
  clear hw hsz
  go_enter Tryd.func64, Tryd.ntmps64
  go_wp2
  go_ret
  exact ⟨by rw [HW.out]; rfl, (Below.refl _ _).alloc (Nat.le_refl _) _⟩
 have hd : decide (20 < (s.size : Int)) = false := by simp; omega
 have hbt : bt s 0 = ((s[0]'hpos).toNat : Int) := by unfold bt; simp [hpos]
 obtain ⟨b, hb⟩ : ∃ b, b = small ((s[0]'hpos).toNat : Int) := ⟨_, rfl⟩
 have HBT := zaa.mk hbt
 clear hsz hbt
 cases b with
 | false =>
  have HW := zaa.mk (show word small s = false by unfold word; rw [HBT.out, ← hb]; simp)
  have HB := zaa.mk hb
  clear hb
  go_enter Tryd.func64, Tryd.ntmps64
  go_wp2_with (go_at_call 78; refine (zbw _ _).mono ?_; rintro e w' ⟨rfl, rfl⟩; rw [← HB.out])
  go_ret
  exact ⟨by rw [HW.out]; rfl, (Below.refl _ _).alloc (Nat.le_refl _) _⟩
 | true =>
  have HW := zaa.mk (show word small s = signs s 0 by unfold word; rw [HBT.out, ← hb, show decide (0 < s.size) = true by simpa using hpos, show decide (s.size ≤ 20) = true by simp; simpa using h20]; simp)
  have HB := zaa.mk hb
  clear hb
  go_enter Tryd.func64, Tryd.ntmps64
  go_wp2_with (go_at_call 78; refine (zbw _ _).mono ?_; rintro e w' ⟨rfl, rfl⟩; rw [← HB.out])
  go_loopw [24] (fun v24 wr => ∃ i : Nat, i ≤ s.size ∧ v24 = .int .i64 i ∧ zaa (signs s 0 = signs s i ∧ Below w.heap.size w wr ∧ wr.heap[w.heap.size]? = some (.cells #[.func (.func 78) #[] #[], .func (.func 65) #[] #[], .func (.func 79) #[] #[]] 132 (0, 0))))
   (fun v24 _ => s.size - (intOf v24).toNat)
  case atStart => exact ⟨0, Nat.zero_le _, rfl, ⟨rfl, (Below.refl _ _).alloc (Nat.le_refl _) _, at_new _ _ rfl⟩⟩
  case round =>
   obtain ⟨i, hi, rfl, ⟨hsg, hbl, hbox⟩⟩ := hrel
   have HSG := zaa.mk hsg
   have HBL := zaa.mk hbl
   have HBX := zaa.mk hbox
   have k0 := zah hbox 0
   have k1 := zah hbox 1
   have k2 := zah hbox 2
   simp only [List.getElem?_toArray, List.getElem?_cons_zero, List.getElem?_cons_succ] at k0 k1 k2
   clear hsg hbl hbox
   by_cases hlt : i < s.size
   ·
    have HN := zaa.mk (zfj s hlt)
    obtain ⟨c, hc⟩ : ∃ c : Int, c = ((s[i]'hlt).toNat : Int) := ⟨_, rfl⟩
    clear hc
    cases hs1 : small ((s[i]'hlt).toNat : Int) with
    | true =>
     have HS := zaa.mk (show sign ((s[i]'hlt).toNat : Int) = true by unfold sign; rw [hs1]; rfl)
     go_wp2_with fail
     go_quiet (first | (go_at_call 78; exact Calls.quiet_of_same (zbw _ _)) | (go_at_call 65; exact Calls.quiet_of_same (zbx _ _)) | (go_at_call 79; exact Calls.quiet_of_same (zbJ _ _)))
     go_wp2_with fail
     go_roundw
     case rel => exact ⟨i + 1, by omega, by go_num, ⟨by rw [HSG.out, HN.out, HS.out]; rfl, zab HBL.out _, HBX.out⟩⟩
     case measure => simp [intOf]; omega
    | false =>
     cases hs2 : great ((s[i]'hlt).toNat : Int) with
     | true =>
      have HS := zaa.mk (show sign ((s[i]'hlt).toNat : Int) = true by unfold sign; rw [hs1, hs2]; rfl)
      go_wp2_with fail
      go_quiet (first | (go_at_call 78; exact Calls.quiet_of_same (zbw _ _)) | (go_at_call 65; exact Calls.quiet_of_same (zbx _ _)) | (go_at_call 79; exact Calls.quiet_of_same (zbJ _ _)))
      go_wp2_with fail
      go_roundw
      case rel => exact ⟨i + 1, by omega, by go_num, ⟨by rw [HSG.out, HN.out, HS.out]; rfl, zab HBL.out _, HBX.out⟩⟩
      case measure => simp [intOf]; omega
     | false =>
      cases hs3 : digit ((s[i]'hlt).toNat : Int) with
      | true =>
       have HS := zaa.mk (show sign ((s[i]'hlt).toNat : Int) = true by unfold sign; rw [hs1, hs2, hs3]; rfl)
       go_wp2_with fail
       go_quiet (first | (go_at_call 78; exact Calls.quiet_of_same (zbw _ _)) | (go_at_call 65; exact Calls.quiet_of_same (zbx _ _)) | (go_at_call 79; exact Calls.quiet_of_same (zbJ _ _)))
       go_wp2_with fail
       go_roundw
       case rel => exact ⟨i + 1, by omega, by go_num, ⟨by rw [HSG.out, HN.out, HS.out]; rfl, zab HBL.out _, HBX.out⟩⟩
       case measure => simp [intOf]; omega
      | false =>
       have HS := zaa.mk (show sign ((s[i]'hlt).toNat : Int) = false by unfold sign; rw [hs1, hs2, hs3]; rfl)
       go_wp2_with fail
       go_quiet (first | (go_at_call 78; exact Calls.quiet_of_same (zbw _ _)) | (go_at_call 65; exact Calls.quiet_of_same (zbx _ _)) | (go_at_call 79; exact Calls.quiet_of_same (zbJ _ _)))
       go_wp2_with fail
       go_ret
       exact ⟨by rw [HW.out, HSG.out, HN.out, HS.out]; rfl, zab HBL.out _⟩
   ·
    have HE := zaa.mk (zeD s (i := i) o9)
    go_wp2_with fail
    go_ret
    exact ⟨by rw [HW.out, HSG.out, HE.out]; rfl, HBL.out⟩
end Go.Proofs.YtfhgmebhdchegaaDoorWords
namespace Go.Proofs.YtfhgmebhdchegaaDoorTab
open Go.RowKit Go.Proofs.YtfhgmebhdchegaaDoor.PAll Go.Proofs.YtfhgmebhdchegaaDoorW.zai Go.Proofs.YtfhgmebhdchegaaDoorW.zas Go.Proofs.YtfhgmebhdchegaaDoorRF Go.Proofs.YtfhgmebhdchegaaDoorRG Go.Proofs.YtfhgmebhdchegaaDoorWords
attribute [local go_sem] Oper.semAt_some
theorem zdJ (s : ByteArray) (w : World) : Calls Tryd.prog 90 #[.string s] w fun e w' => e = .returned (.func (.func 91) #[] #[.pointer (some ⟨w.heap.size, 0, none⟩)]) ∧ w' = w.alloc (.cells #[.string s] 9) := by
 go_enter Tryd.func90, Tryd.ntmps90
 go_wp2
 go_ret
 exact ⟨rfl, rfl⟩
def allS : ByteArray := ⟨#[99, 108, 97, 115, 115, 32, 100, 101, 102, 32, 118, 97, 114, 32, 109, 97, 105, 110, 32, 108, 101, 116, 32, 105, 102, 32, 101, 108, 115, 101, 32, 119, 104, 105, 108, 101, 32, 110, 101, 119, 32, 110, 111, 110, 101, 32, 116, 104, 105, 115, 32, 115, 117, 112, 101, 114, 32, 114, 101, 97, 100, 32, 112, 114, 105, 110, 116, 32, 116, 114, 117, 101, 32, 102, 97, 108, 115, 101, 32, 110, 97, 110, 32, 105, 110, 102, 32, 105, 110, 116, 32, 114, 101, 97, 108, 32, 98, 111, 111, 108, 32, 115, 116, 114, 32, 117, 110, 105, 116, 32, 108, 101, 110]⟩
def resW : List ByteArray := zbX allS allS.size 0 none
theorem zf9 : allS.size ≤ 1000000 := of_decide_eq_true k9
theorem zgs : ∀ i, i < allS.size → (zd0 allS i).toNat < 128 := fun i hi => by
 have h : ((List.range allS.size).all fun i => decide ((zd0 allS i).toNat < 128)) = true := by kernel_rfl
 exact of_decide_eq_true (List.all_eq_true.1 h i (List.mem_range.2 hi))
theorem zfk : resW.length = 24 := by kernel_rfl
theorem zdR (w : World) (hG : GW w) :
  Calls Tryd.prog 88 #[] w fun e w' => ∃ v, e = .returned v ∧ Kd.string.R 9 w' w.heap.size (fun _ => True) v resW ∧ Below w.heap.size w w' := by
 refine (callsIn_wide (n := 5)).1 ?_
 refine callsIn_of_wp_marks Tryd.func88 rfl trivial ?_ rfl
 simp only [Tryd.ntmps88, List.size_toArray, List.length_cons, List.length_nil, Nat.reduceAdd, Nat.reduceSub, Array.replicate_succ, Array.replicate_zero, List.push_toArray, List.append_toArray, List.nil_append, List.cons_append]
 gi_wp2_with (refine ⟨trivial, ?_⟩; gi_at_call 90; refine ((callsIn_wide (n := 4)).2 (zdJ allS _)).mono ?_; rintro e w' ⟨rfl, rfl⟩)
 obtain ⟨W1, hW1⟩ : ∃ W1, W1 = ((w.alloc (Obj.cells #[Value.slice none 0 0] 56)).alloc (Obj.cells #[Value.string allS] 9)) := ⟨_, rfl⟩
 have b0 : W1.heap[w.heap.size]? = some (.cells #[.slice none 0 0] 56 (0, 0)) := by rw [hW1]; exact zaI (at_new w _ rfl) _
 have b1 : W1.heap[w.heap.size + 1]? = some (.cells #[Value.string allS] 9 (0, 0)) := by rw [hW1]; exact at_new _ _ s9
 have hsz : W1.heap.size = w.heap.size + 2 := by rw [hW1]; simp
 have hbl : Below w.heap.size w W1 := by rw [hW1]; exact ((Below.refl _ _).alloc (Nat.le_refl _) _).alloc s9 _
 rw [← hW1]
 have hpos := hG.pos
 refine zd7 (n := 5) rfl o9 91 #[.pointer (some ⟨w.heap.size + 1, 0, none⟩)] rfl trivial (zcA Tryd.func91 k9 rfl)
  (fun p : ByteArray => #[.string p]) (fun _ => rfl) (fun k => k = w.heap.size + 1) (fun k => k < w.heap.size) (fun k hk => by omega) (fun k h => by omega)
  (zew 4 o9 allS zf9 zgs _ w.heap.size W1 (hG.below hbl) hbl.size hpos o9 b1)
  (OutI Value.string (fun _ => rfl) 56 9 w.heap.size w w.heap.size) (fun _ _ _ _ => False) (OutI.stable _ _ _ _ _ _ (Nat.le_refl _) _) (fun _ _ _ _ _ _ h _ _ _ => h.elim) ?_
  (fun x => { tmps := #[.slice none 0 0, .pointer (some ⟨w.heap.size, 0, none⟩), .string x, .func (.func 91) #[] #[.pointer (some ⟨w.heap.size + 1, 0, none⟩)], .string x, undef, undef, undef, undef, undef], defers := [] }) ?assign ?body ?done (fun _ _ _ _ _ _ _ _ h _ => h.elim)
 ·
  intro O hO W hW
  have hno : ¬ O w.heap.size := fun e => by rcases hO _ e with h | h <;> omega
  exact ⟨⟨_, ⟨hW.at b0 (fun h => h), hno⟩, Kd.R_nil _ _ _ _ _⟩, hbl.trans (hW.below hbl.size (fun _ h => h.elim)), fun k hk => by rcases hO k hk with h | h <;> omega⟩
 case assign =>
  intro l x W K hK
  gi_wp2
  exact hK
 case body =>
  intro l pre x O W hI hpre hOl hOlp hrec hOO hsz2
  obtain ⟨⟨v, hm, hr⟩, hb, hlo⟩ := hI
  obtain ⟨A, c, hv⟩ := Kd.zaR hr
  subst hv
  have hc := zah hm.1 0
  have hf := free_at hm.1 0
  simp only [List.getElem?_toArray, List.getElem?_cons_zero] at hc
  have HM := zaa.mk hm
  have HR := zaa.mk hr
  have HL := zaa.mk (show pre.length < 25 by have h1 := hpre.length_le; have h2 := zfk; unfold resW at h2; simp at h1; omega)
  clear hm hr
  gi_wp2_with (gi_at_builtin; refine zcI Value.string (h1c := fun _ => rfl) _ rfl _ _ 56 9 (.string ⟨#[]⟩) 16 rfl Tryd.underlying56 infoS rfl d9 w.heap.size (fun k => ¬ O k) (.slice A pre.length c) pre x W.heap.size 1 rfl rfl ?hg (Kd.zaH HR.out _) ?hb ?hl ?_)
  case hg => exact (zah (at_new W _ rfl) 0).trans rfl
  case hb => have := hb.size; simp; omega
  case hl => have := HL.out; omega
  intro v1 w1 hR1 hg1
  obtain ⟨W4, hW4⟩ : ∃ W4, W4 = W.alloc (.cells #[.string x] 9) := ⟨_, rfl⟩
  have hs4 : W4.heap.size = W.heap.size + 1 := by rw [hW4]; simp
  rw [← hW4] at hg1
  have hmv4 : Mv (fun _ => False) W W4 := by rw [hW4]; exact (Mv.refl _ _).alloc _
  have key := OutI.put (T := 56) d9 (Nat.le_refl _) (Nat.le_refl _) hOl HM.out HR.out hb hlo hmv4 (Kd.zaz hR1 (fun k h => h.imp id (fun h => by omega))) hg1
  have hm1 := (hg1.block w.heap.size (zam (hmv4.at HM.out.1 (fun h => h))) (Kd.R_ne HR.out HM.out.1 d9)).trans (hmv4.at HM.out.1 (fun h => h))
  have hc := zah hm1 0
  have hf := free_at hm1 0
  simp only [List.getElem?_toArray, List.getElem?_cons_zero] at hc
  obtain ⟨A1, c1, hv1⟩ := Kd.zaR hR1
  rw [List.length_append, List.length_singleton] at hv1
  subst hv1
  have KEY := zaa.mk key
  clear key hm1 hR1 hg1 hmv4 hs4 hW4 hb hlo
  gi_wp2
  exact KEY.out
 case done =>
  intro D xs O W hD hOD hOl hS hI hK
  subst hS
  obtain ⟨⟨v, hm, hr⟩, hb, hlo⟩ := hI
  have hc := zah hm.1 0
  have hf := free_at hm.1 0
  simp only [List.getElem?_toArray, List.getElem?_cons_zero] at hc
  have HM := zaa.mk hm
  have HR := zaa.mk hr
  have HB := zaa.mk hb
  clear hm hr hb hlo
  gi_wp2
  refine ⟨by simp, .inl ⟨_, _, rfl, run_takeDeferred hK, ?_⟩⟩
  refine ⟨v, (results_tmp rfl _ _ _).trans rfl, ?_⟩
  have hfin := (Mv.refl (fun k => w.heap.size ≤ k) W).putObj (r := D) (.inl o9) (.deferred none)
  refine ⟨v, rfl, Kd.zaz (Kd.zbM (Kd.za0 HR.out) (fun k hk hl => ?_)) (fun _ _ => trivial), HB.out.trans (hfin.below HB.out.size (fun _ h => h))⟩
  obtain ⟨_, _, _, q, _, cells, hcl⟩ := hk
  have hneD : D ≠ k := fun e => by subst e; rw [hcl] at hK; cases hK
  exact World.putObj_heap_other hneD.symm
def keyB (s : ByteArray) : Bool := hasN s resW
theorem zgi (s : ByteArray) (w : World) (hG : GW w) : Calls Tryd.prog 83 #[.string s] w fun e w' => e = .returned (.bool (keyB s)) ∧ Below w.heap.size w w' := by
 obtain ⟨b, hb⟩ : ∃ b, b = keyB s := ⟨_, rfl⟩
 have HR := zaa.mk (zdR w hG)
 have HQ := zaa.mk hb
 rw [← hb]
 clear hb hG
 go_enter Tryd.func83, Tryd.ntmps83
 go_wp2_with fail
 refine HR.out.mono ?_
 rintro e w1 ⟨v, rfl, hR1, hb1⟩
 obtain ⟨A, c, rfl, hc, hC⟩ := Kd.zbB hR1
 have HB1 := zaa.mk hb1
 have HC := zaa.mk (zbk A c resW s w1 hC (by rw [zfk]; decide))
 clear hR1 hb1 hC hc HR
 go_wp2_with fail
 refine HC.out.mono ?_
 rintro e w2 ⟨rfl, rfl⟩
 clear HC
 go_wp2_with fail
 go_ret
 exact ⟨by rw [HQ.out]; rfl, HB1.out⟩
def nameB (s : ByteArray) : Bool := word small s && !keyB s
theorem zdX (s : ByteArray) (w : World) (hs : s.size ≤ maxLen) (hG : GW w) : Calls Tryd.prog 69 #[.string s] w fun e w' => e = .returned (.bool (nameB s)) ∧ Below w.heap.size w w' := by
 have HW := zaa.mk (zfN s w hs)
 obtain ⟨b, hb⟩ : ∃ b, b = nameB s := ⟨_, rfl⟩
 have HQ := zaa.mk hb
 have HG := zaa.mk hG
 rw [← hb]
 unfold nameB at HQ
 clear hb hG
 go_enter Tryd.func69, Tryd.ntmps69
 cases h1 : word small s with
 | false =>
  rw [h1] at HW HQ
  go_wp2_with fail
  refine HW.out.mono ?_
  rintro e w1 ⟨rfl, hb1⟩
  have HB1 := zaa.mk hb1
  clear hb1 HW
  go_wp2_with fail
  go_ret
  exact ⟨by rw [HQ.out]; rfl, HB1.out⟩
 | true =>
  rw [h1] at HW HQ
  go_wp2_with fail
  refine HW.out.mono ?_
  rintro e w1 ⟨rfl, hb1⟩
  have HB1 := zaa.mk hb1
  have HK := zaa.mk (zgi s w1 (HG.out.below hb1))
  clear hb1 HW
  go_wp2_with fail
  refine HK.out.mono ?_
  rintro e w2 ⟨rfl, hb2⟩
  have HB2 := zaa.mk (HB1.out.trans (hb2.mono HB1.out.size))
  obtain ⟨kb, hkb⟩ : ∃ kb, kb = keyB s := ⟨_, rfl⟩
  rw [← hkb] at HQ ⊢
  clear hb2 HK hkb
  go_wp2_with fail
  go_ret
  exact ⟨by rw [HQ.out]; rfl, HB2.out⟩
end Go.Proofs.YtfhgmebhdchegaaDoorTab
end

section
namespace Go.Proofs.YtfhgmebhdchegaaDoorTab
open Go.RowKit Go.Proofs.YtfhgmebhdchegaaDoor.PAll Go.Proofs.YtfhgmebhdchegaaDoorW.zai Go.Proofs.YtfhgmebhdchegaaDoorW.zas Go.Proofs.YtfhgmebhdchegaaDoorRF Go.Proofs.YtfhgmebhdchegaaDoorRG Go.Proofs.YtfhgmebhdchegaaDoorWords
attribute [local go_sem] Oper.semAt_some
structure Chk (w : World) (kb : Nat) (A0 : Option Addr) (c0 : Nat) (t : List (S43)) (i : Nat) (x2 x3 : Value) : Prop where
 at_ : w.heap[kb]? = some (.cells #[.slice A0 t.length c0, .int .i64 (i : Int), x2, x3] 58 (0, 0))
 tab : Kd.C k43 w A0 t.length t
 lt : i < t.length
 max : t.length < 4398046511104
theorem Chk.below {w w' : World} {kb : Nat} {A0 : Option Addr} {c0 : Nat} {t : List (S43)} {i : Nat} {x2 x3 : Value} (h : Chk w kb A0 c0 t i x2 x3) (hb : Below w.heap.size w w') : Chk w' kb A0 c0 t i x2 x3 := ⟨(hb.block kb (zam h.at_)).trans h.at_, Kd.zay h.tab hb, h.lt, h.max⟩
theorem zbS (kb : Nat) (A0 : Option Addr) (c0 : Nat) (t : List (S43)) (i : Nat) (x2 x3 : Value) (w : World) (h : Chk w kb A0 c0 t i x2 x3) :
  Calls Tryd.prog 43 #[.pointer (some ⟨kb, 0, none⟩)] w fun e w' => e = .returned (encP A0 i) ∧ Below w.heap.size w w' := by
 obtain ⟨ad, A2, c2, A3, c3, hA0, x0, -, -, -, -, -, -, -⟩ := zb0 h.tab (i : Int) o9 (by have := h.lt; omega)
 subst hA0
 have g0 := zah h.at_ 0
 have g1 := zah h.at_ 1
 simp only [List.getElem?_toArray, List.getElem?_cons_zero, List.getElem?_cons_succ] at g0 g1
 have hi0 : (0 : Int) ≤ (i : Int) := by omega
 have hi1 : (i : Int) < (t.length : Int) := by have := h.lt; omega
 have hu := Tryd.underlying58
 have hu2 := Tryd.underlying43
 simp only [encP, Option.map_some]
 clear h x0
 go_enter Tryd.func43, Tryd.ntmps43
 go_wp2_with fail
 go_quiet (fail)
 go_wp2_with fail
 go_ret
 exact ⟨rfl, zab (Below.refl _ _) _⟩
end Go.Proofs.YtfhgmebhdchegaaDoorTab
end

section
namespace Go.Proofs.YtfhgmebhdchegaaDoorW.zai
open Go.RowKit
theorem bl {p q : Prop} (h : p) (f : p → q := by intro h; repeat (first | (with_reducible first | exact h | apply zad | apply zab | apply zae | (refine zau ?_ (zaa.out (by assumption)))) | exact h)) : q := f h
theorem gw {w W : World} {g : Nat} (e : g = W.heap.size) (h : Below w.heap.size w W) : w.heap.size ≤ g := e ▸ zaq h
section
variable {P : Program} {ops : Array Oper} {rest : List Oper} {o : Oper} {a : Act} {Q : Exit → Act → World → Prop}
end
end Go.Proofs.YtfhgmebhdchegaaDoorW.zai
end

section
namespace Go.Proofs.YtfhgmebhdchegaaDoorRG
open Go.RowKit Go.Proofs.YtfhgmebhdchegaaDoorW.zas Go.Proofs.YtfhgmebhdchegaaDoorW.zai Go.Proofs.YtfhgmebhdchegaaDoorRF
theorem ga : (∀ {α : Type} (l : List α) (i : Nat), l.toArray[i]? = l[i]?) ∧ (∀ {α : Type} (a : α) (l : List α), (a :: l)[0]? = some a) ∧ (∀ {α : Type} (a : α) (l : List α) (i : Nat), (a :: l)[i + 1]? = l[i]?) := ⟨fun _ _ => by simp, fun _ _ => rfl, fun _ _ _ => rfl⟩
theorem pa : (∀ (a : Act) (d : Tmp) (v : Value), a.put (some d) v = { a with tmps := a.tmps.setIfInBounds d v }) ∧ (∀ (a : Act) (v : Value), a.put none v = a) ∧ (∀ (l : List Value) (i : Nat) (v : Value), l.toArray.setIfInBounds i v = (l.set i v).toArray) ∧ (∀ (x : Value) (l : List Value) (i : Nat) (v : Value), (x :: l).set (i + 1) v = x :: l.set i v) ∧ (∀ (x : Value) (l : List Value) (v : Value), (x :: l).set 0 v = v :: l) := ⟨fun _ _ _ => rfl, fun _ _ => rfl, fun _ _ _ => by simp, fun _ _ _ _ => rfl, fun _ _ _ => rfl⟩
theorem ps : (∀ (ops : Array Oper) (vs : Nat → Value) (a : Act), putL ops vs [] a = a) ∧ (∀ (ops : Array Oper) (vs : Nat → Value) (j : Nat) (r : List Nat) (a : Act), putL ops vs (j :: r) a = putL ops vs r (a.put (zaM ops j) (vs j))) ∧ (∀ (ops : Array Oper) (j : Nat), zaM ops j = (ops[j]?).bind (·.dst)) ∧ (∀ {α β : Type} (x : α) (f : α → Option β), (some x).bind f = f x) := ⟨fun _ _ _ => rfl, fun _ _ _ _ _ => rfl, fun _ _ => rfl, fun _ _ => rfl⟩
section
variable {P : Program} {ops : Array Oper} {Q : Exit → Act → World → Prop} {a0 : Act} {w0 : World} {m : Nat} {late : List Nat} {E : Env} {i : Nat} {r : List Nat} {o : Oper}
theorem Seen.rd {α : Type} {d : Kd α} {e : Nat} {L : List α} {F : Value → Value} {a : Act} {w : World} (h : Seen ops a0 m E i a w) (k : Nat) {j : Nat} (hk : E[k]? = some (j, OneR d e L F)) {t : Tmp} (ht : zaM ops j = some t) (hn : (needs ops i).contains j = true := by kernel_rfl) :
  ∃ A c, a.tmps[t]?.getD undef = F (.slice A L.length c) ∧ L.length ≤ c ∧ d.C w A L.length L ∧ d.R e w 0 (fun _ => True) (.slice A L.length c) L := OneR.reads (h.get k hk hn ht)
theorem rgv (v : Value) (hr : ∀ a w, Grows w0 w → Seen ops a0 m E i a w → (execOp a.eval o).run P w = .ok (.value v) w) (h : RG P ops Q Grows a0 w0 m ((i, fun x _ => x = v) :: E) r) (hi : ops[i]? = some o := by rfl) (hg : o.guard = none := by rfl) : RG P ops Q Grows a0 w0 m E (i :: r) :=
 zbl v Grows.refl hi (fun _ _ _ _ => zax hg) hr h
theorem rgk (φ : Value → World → Prop) (hr : ∀ a w, Grows w0 w → Seen ops a0 m E i a w → ∃ v, (execOp a.eval o).run P w = .ok (.value v) w ∧ φ v w) (h : RG P ops Q Grows a0 w0 m ((i, φ) :: E) r) (hs : ∀ v w w', Grows w w' → φ v w → φ v w' := by first | exact OneR.grows | exact fun _ _ _ _ h => h) (hi : ops[i]? = some o := by rfl) (hg : o.guard = none := by rfl) : RG P ops Q Grows a0 w0 m E (i :: r) :=
 zg5 φ hs Grows.refl hi (fun _ _ _ _ => zax hg) hr h
theorem rgc {f : FuncId} {fn : Func} {xs : Array Operand} {ts : Array TypeId} (φ : Value → World → Prop) (hf : P.funcs[f]? = some fn)
  (hr : ∀ a w, Grows w0 w → Seen ops a0 m E i a w → Calls P f (xs.map a.eval) w fun e w' => ∃ v, e = .returned v ∧ Grows w w' ∧ φ v w') (h : RG P ops Q Grows a0 w0 m ((i, φ) :: E) r) (hs : ∀ v w w', Grows w w' → φ v w → φ v w' := by first | exact OneR.grows | exact fun _ _ _ _ h => h) (hi : ops[i]? = some o := by rfl)
  (hop : o.op = .call { callee := .value (.func f), args := xs, argTypes := ts } := by rfl) (hname : (fn.name == "runtime.NumGoroutine") = false := by kernel_rfl) (hb : fn.body.isSome = true := by rfl) (hg : o.guard = none := by rfl) : RG P ops Q Grows a0 w0 m E (i :: r) :=
 zdN φ hs hi hop hf hname hb (fun _ _ _ _ => zax hg) hr h
end
theorem cb {α : Type} {d : Kd α} {w w1 : World} {A : Option Addr} {n : Nat} {xs : List α} (h : zaa (d.C w A n xs)) (hb : Below w.heap.size w w1) : zaa (d.C w1 A n xs) := ⟨Kd.zay h.out hb⟩
theorem hbm {w A B : World} (h : zaa (Below w.heap.size w A)) (g : Grows A B) : zaa (Below w.heap.size w B) := ⟨h.out.trans (Below.mono g h.out.size)⟩
end Go.Proofs.YtfhgmebhdchegaaDoorRG
end

section
namespace Go.Proofs.YtfhgmebhdchegaaDoorTab
open Go.RowKit Go.Proofs.YtfhgmebhdchegaaDoor.PAll Go.Proofs.YtfhgmebhdchegaaDoorW.zai Go.Proofs.YtfhgmebhdchegaaDoorW.zas Go.Proofs.YtfhgmebhdchegaaDoorRF Go.Proofs.YtfhgmebhdchegaaDoorRG Go.Proofs.YtfhgmebhdchegaaDoorWords
attribute [local go_sem] Oper.semAt_some
def idxQ : List (S51) → Nat → Int
 | [], _ => -1
 | x :: r, i => if 8 < x.f1.length then (i : Int) else idxQ r (i + 1)
theorem zhm (l : List (S51)) (i : Nat) (h : i < l.length) : idxQ (l.drop i) i = if 8 < (zaQ l (i : Int)).f1.length then (i : Int) else idxQ (l.drop (i + 1)) (i + 1) := by
 rw [List.drop_eq_getElem_cons h]
 unfold zaQ
 rw [Int.toNat_natCast, List.getD_eq_getElem?_getD, List.getElem?_eq_getElem h]; rfl
theorem isQ (x0 : ByteArray) (A1 : Option Addr) (n1 c1 : Nat) (x2 : ByteArray) (w : World) : Calls Tryd.prog 44 #[.agg #[.string x0, .slice A1 n1 c1, .string x2]] w fun e w' => e = .returned (.bool (decide (8 < (n1 : Int)))) ∧ Below w.heap.size w w' := by
 have hu := Tryd.underlying51
 go_enter Tryd.func44, Tryd.ntmps44
 go_wp2
 go_ret
 exact ⟨rfl, (Below.refl _ _).alloc (Nat.le_refl _) _⟩
theorem zhC (A0 : Option Addr) (c0 : Nat) (l0 : List (S51)) (w : World) (hr0 : Kd.C k51 w A0 l0.length l0) (hl : l0.length < 4398046511104) :
  Calls Tryd.prog 66 #[.slice A0 l0.length c0, .func (.func 44) #[] #[]] w fun e w' => e = .returned (.int .i64 (idxQ l0 0)) ∧ Below w.heap.size w w' := by
 have HR0 := zaa.mk hr0
 have hu := Tryd.underlying51
 obtain ⟨r, hr⟩ : ∃ r, r = idxQ l0 0 := ⟨_, rfl⟩
 rw [← hr]
 have HH := zaa.mk hr.symm
 clear hr0 hr
 go_enter Tryd.func66, Tryd.ntmps66
 go_wp2
 go_loopw [8] (fun v8 wr => ∃ i : Nat, i ≤ l0.length ∧ v8 = .int .i64 i ∧ zaa (idxQ (l0.drop i) i = r ∧ Below w.heap.size w wr)) (fun v8 _ => l0.length - (intOf v8).toNat)
 case atStart => exact ⟨0, Nat.zero_le _, rfl, ⟨HH.out, Below.refl _ _⟩⟩
 case round =>
  obtain ⟨i, hi, rfl, ⟨hI, hB⟩⟩ := hrel
  have HB := zaa.mk hB
  by_cases hlt : i < l0.length
  ·
   obtain ⟨ad, A1, c1, hA, x0, x1, x2, _⟩ := zdF (Kd.zay HR0.out hB) (i : Int) o9 o9
   simp only [Int.toNat_natCast] at x0 x1 x2
   have HA := zhm l0 i hlt
   rw [hI] at HA
   obtain ⟨x, hx⟩ : ∃ x, x = zaQ l0 (i : Int) := ⟨_, rfl⟩
   rw [← hx] at HA x0 x1 x2
   clear hx hI hB
   subst hA
   by_cases he : 8 < x.f1.length
   ·
    rw [if_pos he] at HA
    have HQ := zaa.mk (show (decide (8 < (x.f1.length : Int))) = true by simp; omega)
    subst HA
    clear he
    go_wp2_with fail
    refine (isQ x.f0 A1 x.f1.length c1 x.f2 _).mono ?_
    rintro e w2 ⟨rfl, hb⟩
    rw [HQ.out]
    have HB2 := zaa.mk (HB.out.trans (hb.mono HB.out.size))
    clear hb
    go_wp2_with fail
    go_ret
    exact ⟨rfl, HB2.out⟩
   ·
    rw [if_neg he] at HA
    have HQ := zaa.mk (show (decide (8 < (x.f1.length : Int))) = false by simp; omega)
    have HA2 := zaa.mk HA.symm
    clear he HA
    go_wp2_with fail
    refine (isQ x.f0 A1 x.f1.length c1 x.f2 _).mono ?_
    rintro e w2 ⟨rfl, hb⟩
    rw [HQ.out]
    have HB2 := zaa.mk (HB.out.trans (hb.mono HB.out.size))
    clear hb
    go_wp2_with fail
    go_roundw
    case rel => exact ⟨i + 1, by omega, by go_num, ⟨HA2.out, HB2.out⟩⟩
    case measure => simp [intOf]; omega
  ·
   have hi2 : i = l0.length := by omega
   rw [hi2, List.drop_length] at hI
   have HA2 := zaa.mk hI
   clear hI hi2 hB
   go_wp2_with fail
   go_ret
   exact ⟨by rw [← HA2.out]; rfl, HB.out⟩
def manyB (l : List (S51)) : Bool := decide (idxQ l 0 ≥ 0)
theorem zdI (A0 : Option Addr) (c0 : Nat) (l0 : List (S51)) (w : World) (hr0 : Kd.C k51 w A0 l0.length l0) (hl : l0.length < 4398046511104) :
  Calls Tryd.prog 46 #[.slice A0 l0.length c0, .func (.func 44) #[] #[]] w fun e w' => e = .returned (.bool (manyB l0)) ∧ Below w.heap.size w w' := by
 unfold manyB
 have HI := zaa.mk (zhC A0 c0 l0 w hr0 hl)
 obtain ⟨r, hr⟩ : ∃ r, r = idxQ l0 0 := ⟨_, rfl⟩
 rw [← hr] at HI ⊢
 clear hr hr0
 go_enter Tryd.func46, Tryd.ntmps46
 go_wp2_with fail
 refine HI.out.mono ?_
 rintro e w1 ⟨rfl, hb⟩
 have HB := zaa.mk hb
 clear hb HI
 go_wp2_with fail
 go_ret
 exact ⟨rfl, HB.out⟩
structure Cls (w : World) (kb : Nat) (ad : Addr) (c0 : Nat) (t : List (S43)) (i : Nat) (v2 v3 : Value) (A2 : Option Addr) (c2 : Nat) (A3 : Option Addr) (c3 : Nat) : Prop where
 at_ : w.heap[kb]? = some (.cells #[.slice (some ad) t.length c0, .int .i64 (i : Int), v2, v3] 58 (0, 0))
 k0 : w.cell? ⟨kb, 0, none⟩ = some (.slice (some ad) t.length c0)
 k1 : w.cell? ⟨kb, 1, none⟩ = some (.int .i64 (i : Int))
 k2 : w.cell? ⟨kb, 2, none⟩ = some v2
 k3 : w.cell? ⟨kb, 3, none⟩ = some v3
 x0 : w.cell? (ad.add (i * 4)) = some (.string (clsAt t i).f0)
 x1 : w.cell? ⟨(ad.add (i * 4)).block, (ad.add (i * 4)).off + 1, none⟩ = some (.string (clsAt t i).f1)
 x2 : w.cell? ⟨(ad.add (i * 4)).block, (ad.add (i * 4)).off + 2, none⟩ = some (.slice A2 (clsAt t i).f2.length c2)
 x3 : w.cell? ⟨(ad.add (i * 4)).block, (ad.add (i * 4)).off + 3, none⟩ = some (.slice A3 (clsAt t i).f3.length c3)
 tab : Kd.C k43 w (some ad) t.length t
 l2 : (clsAt t i).f2.length ≤ c2
 l3 : (clsAt t i).f3.length ≤ c3
 C2 : Kd.C k48 w A2 (clsAt t i).f2.length (clsAt t i).f2
 C3 : Kd.C k51 w A3 (clsAt t i).f3.length (clsAt t i).f3
 lt : i < t.length
 max : t.length < 4398046511104
theorem Cls.below {w w' : World} {kb : Nat} {ad : Addr} {c0 : Nat} {t : List (S43)} {i : Nat} {v2 v3 : Value} {A2 : Option Addr} {c2 : Nat} {A3 : Option Addr} {c3 : Nat} (h : Cls w kb ad c0 t i v2 v3 A2 c2 A3 c3) (hb : Below w.heap.size w w') : Cls w' kb ad c0 t i v2 v3 A2 c2 A3 c3 :=
 ⟨(hb.block kb (zam h.at_)).trans h.at_, (hb.cell (block_lt_of_cell h.k0)).trans h.k0, (hb.cell (block_lt_of_cell h.k1)).trans h.k1, (hb.cell (block_lt_of_cell h.k2)).trans h.k2, (hb.cell (block_lt_of_cell h.k3)).trans h.k3,
  (hb.cell (block_lt_of_cell h.x0)).trans h.x0, (hb.cell (block_lt_of_cell h.x1)).trans h.x1, (hb.cell (block_lt_of_cell h.x2)).trans h.x2, (hb.cell (block_lt_of_cell h.x3)).trans h.x3, Kd.zay h.tab hb, h.l2, h.l3, Kd.zay h.C2 hb, Kd.zay h.C3 hb, h.lt, h.max⟩
theorem Chk.cls {w : World} {kb : Nat} {A0 : Option Addr} {c0 : Nat} {t : List (S43)} {i : Nat} {v2 v3 : Value} (h : Chk w kb A0 c0 t i v2 v3) : ∃ ad A2 c2 A3 c3, A0 = some ad ∧ Cls w kb ad c0 t i v2 v3 A2 c2 A3 c3 := by
 obtain ⟨ad, A2, c2, A3, c3, hA0, x0, x1, x2, x3, l2, C2, l3, C3⟩ := zb0 h.tab (i : Int) o9 (by have := h.lt; omega)
 subst hA0
 have g0 := zah h.at_ 0
 have g1 := zah h.at_ 1
 have g2 := zah h.at_ 2
 have g3 := zah h.at_ 3
 simp only [List.getElem?_toArray, List.getElem?_cons_zero, List.getElem?_cons_succ] at g0 g1 g2 g3
 simp only [Int.toNat_natCast] at x0 x1 x2 x3
 exact ⟨ad, A2, c2, A3, c3, rfl, h.at_, g0, g1, g2, g3, x0, x1, x2, x3, h.tab, l2, l3, C2, C3, h.lt, h.max⟩
theorem Cls.drew {w : World} {kb : Nat} {ad : Addr} {c0 : Nat} {t : List (S43)} {i : Nat} {v2 v3 : Value} {A2 : Option Addr} {c2 : Nat} {A3 : Option Addr} {c3 : Nat} (h : Cls w kb ad c0 t i v2 v3 A2 c2 A3 c3) : Cls w.drew kb ad c0 t i v2 v3 A2 c2 A3 c3 := h.below (Below.refl w.heap.size w).drew
theorem Cls.chk {w : World} {kb : Nat} {ad : Addr} {c0 : Nat} {t : List (S43)} {i : Nat} {v2 v3 : Value} {A2 : Option Addr} {c2 : Nat} {A3 : Option Addr} {c3 : Nat} (h : Cls w kb ad c0 t i v2 v3 A2 c2 A3 c3) : Chk w kb (some ad) c0 t i v2 v3 := ⟨h.at_, h.tab, h.lt, h.max⟩
theorem zcU (s : ByteArray) (w : World) (hs : s.size ≤ 9223372036854775807) : Calls Tryd.prog 45 #[.string s] w fun e w' => e = .returned (.bool (word great s)) ∧ Below w.heap.size w w' := by
 have HW := zaa.mk (zfI s w hs)
 obtain ⟨b, hb⟩ : ∃ b, b = word great s := ⟨_, rfl⟩
 rw [← hb] at HW ⊢
 clear hb
 go_enter Tryd.func45, Tryd.ntmps45
 go_wp2_with fail
 refine HW.out.mono ?_
 rintro e w1 ⟨rfl, hb⟩
 have HB := zaa.mk hb
 clear hb HW
 go_wp2_with fail
 go_ret
 exact ⟨rfl, HB.out⟩
def zfo (t : List (S43)) (i : Nat) : Int :=
 if word great (clsAt t i).f0 = false then 5 else if at1 t (clsAt t i).f0 < (i : Int) then 8 else if 20 < (clsAt t i).f2.length ∨ 20 < (clsAt t i).f3.length ∨ manyB (clsAt t i).f3 = true then 12 else 0
theorem ze5 (kb : Nat) (A0 : Option Addr) (c0 : Nat) (t : List (S43)) (i : Nat) (v2 v3 : Value) (w : World) (h : Chk w kb A0 c0 t i v2 v3) (hnm : (clsAt t i).f0.size ≤ 9223372036854775807) (hms : (clsAt t i).f3.length < 4398046511104) (hfs : (clsAt t i).f2.length < 4398046511104) :
  Calls Tryd.prog 24 #[.pointer (some ⟨kb, 0, none⟩)] w fun e w' => e = .returned (.int .i64 (zfo t i)) ∧ Below w.heap.size w w' := by
 have HCC := zaa.mk (zbS kb A0 c0 t i v2 v3 w h)
 obtain ⟨ad, A2, c2, A3, c3, rfl, hc⟩ := h.cls
 have HC := zaa.mk hc
 have HM := zaa.mk hms
 simp only [encP, Option.map_some] at HCC
 obtain ⟨r, hr⟩ : ∃ r, r = zfo t i := ⟨_, rfl⟩
 have HF := zaa.mk hr
 rw [← hr]
 unfold zfo at HF
 clear h hc hr hms
 have hu := Tryd.underlying58
 have hu2 := Tryd.underlying43
 go_enter Tryd.func24, Tryd.ntmps24
 go_wp2_with fail
 refine HCC.out.mono ?_
 rintro e w1 ⟨rfl, hb1⟩
 replace HC := zaa.mk (HC.out.below hb1)
 have HB := zaa.mk hb1
 clear hb1 HCC
 go_wp2_with fail
 have HD := zaa.mk HC.out.drew
 refine zbq (N := 58) 14 Grows k9 k9 rfl Grows.refl Grows.trans ?_
 rw [show List.range 14 = [0, 1, 2, 3, 4, 5, 6, 7, 8, 9, 10, 11, 12, 13] from rfl]
 refine rgv (.pointer (some ⟨kb, 0, none⟩)) ?_ ?_
 ·
  intro a w' hr hs
  have h0 := hs.ov 0 (.pointer (some ⟨kb, 0, none⟩))
  go_simp
 refine rgv (.pointer (some ⟨kb, 0, none⟩)) ?_ ?_
 ·
  intro a w' hr hs
  have h10 := hs.gv 0 rfl rfl
  go_simp
 refine rgv (.pointer (some ⟨kb, 0, none⟩)) ?_ ?_
 ·
  intro a w' hr hs
  have h11 := hs.gv 0 rfl rfl
  go_simp
 refine rgv (.slice (some ad) t.length c0) ?_ ?_
 ·
  intro a w' hr hs
  have h12 := hs.gv 0 rfl rfl
  have g := (HD.out.below hr).k0
  go_simp
 refine rgv (.pointer (some (ad.add (i * 4)))) ?_ ?_
 ·
  intro a w' hr hs
  have h3 := hs.ov 3 (.pointer (some (ad.add (i * 4))))
  go_simp
 refine rgv (.pointer (some (ad.add (i * 4)))) ?_ ?_
 ·
  intro a w' hr hs
  have h14 := hs.gv 0 rfl rfl
  go_simp
 refine rgv (.pointer (some (ad.add (i * 4)))) ?_ ?_
 ·
  intro a w' hr hs
  have h15 := hs.gv 0 rfl rfl
  go_simp
 refine rgv (.string (clsAt t i).f0) ?_ ?_
 ·
  intro a w' hr hs
  have h16 := hs.gv 0 rfl rfl
  have g := (HD.out.below hr).x0
  go_simp
 refine rgc (fun v _ => v = .tuple #[.int .i64 (at1 t (clsAt t i).f0), .bool (is1 t (clsAt t i).f0)]) Tryd.func14 ?_ ?_
 ·
  intro a w' hr hs
  have h13 := hs.gv 4 rfl rfl
  have h17 := hs.gv 0 rfl rfl
  rw [show (#[Operand.tmp 13, Operand.tmp 17] : Array Operand).map a.eval = #[.slice (some ad) t.length c0, .string (clsAt t i).f0] by simp [Act.eval, h13, h17]]
  refine (zbL (some ad) c0 t (clsAt t i).f0 _ (HD.out.below hr).tab HD.out.max).mono ?_
  rintro e w3 ⟨rfl, hb⟩
  exact ⟨_, rfl, hb, rfl⟩
 refine rgv (.tuple #[.int .i64 (at1 t (clsAt t i).f0), .bool (is1 t (clsAt t i).f0)]) ?_ ?_
 ·
  intro a w' hr hs
  have h18 := hs.gv 0 rfl rfl
  go_simp
 refine rgv (.int .i64 (at1 t (clsAt t i).f0)) ?_ ?_
 ·
  intro a w' hr hs
  have h9 := hs.gv 0 rfl rfl
  go_simp
 refine rgv (.bool (is1 t (clsAt t i).f0)) ?_ ?_
 ·
  intro a w' hr hs
  have h9 := hs.gv 1 rfl rfl
  go_simp
 refine rgv (.int .i64 (at1 t (clsAt t i).f0)) ?_ ?_
 ·
  intro a w' hr hs
  have h19 := hs.gv 1 rfl rfl
  go_simp
 refine rgv (.bool (is1 t (clsAt t i).f0)) ?_ ?_
 ·
  intro a w' hr hs
  have h20 := hs.gv 1 rfl rfl
  go_simp
 intro vs w5 hr hE
 have e0 : vs 0 = .pointer (some ⟨kb, 0, none⟩) := hE _ (zaf 13 rfl)
 have e1 : vs 1 = .pointer (some ⟨kb, 0, none⟩) := hE _ (zaf 12 rfl)
 have e2 : vs 2 = .pointer (some ⟨kb, 0, none⟩) := hE _ (zaf 11 rfl)
 have e3 : vs 3 = .slice (some ad) t.length c0 := hE _ (zaf 10 rfl)
 have e4 : vs 4 = .pointer (some (ad.add (i * 4))) := hE _ (zaf 9 rfl)
 have e5 : vs 5 = .pointer (some (ad.add (i * 4))) := hE _ (zaf 8 rfl)
 have e6 : vs 6 = .pointer (some (ad.add (i * 4))) := hE _ (zaf 7 rfl)
 have e7 : vs 7 = .string (clsAt t i).f0 := hE _ (zaf 6 rfl)
 have e8 : vs 8 = .tuple #[.int .i64 (at1 t (clsAt t i).f0), .bool (is1 t (clsAt t i).f0)] := hE _ (zaf 5 rfl)
 have e9 : vs 9 = .tuple #[.int .i64 (at1 t (clsAt t i).f0), .bool (is1 t (clsAt t i).f0)] := hE _ (zaf 4 rfl)
 have e10 : vs 10 = .int .i64 (at1 t (clsAt t i).f0) := hE _ (zaf 3 rfl)
 have e11 : vs 11 = .bool (is1 t (clsAt t i).f0) := hE _ (zaf 2 rfl)
 have e12 : vs 12 = .int .i64 (at1 t (clsAt t i).f0) := hE _ (zaf 1 rfl)
 have e13 : vs 13 = .bool (is1 t (clsAt t i).f0) := hE _ (zaf 0 rfl)
 rw [show List.range 14 = [0, 1, 2, 3, 4, 5, 6, 7, 8, 9, 10, 11, 12, 13] from rfl]
 simp only [ps, ga, pa, e0, e1, e2, e3, e4, e5, e6, e7, e8, e9, e10, e11, e12, e13]
 clear hE e0 e1 e2 e3 e4 e5 e6 e7 e8 e9 e10 e11 e12 e13
 refine zbd ?_
 replace HB := zaa.mk (HB.out.trans (((Below.refl w1.heap.size w1).drew.trans hr).mono HB.out.size))
 replace HC := zaa.mk (HD.out.below hr)
 clear HD hr
 have y0 := HC.out.x0
 have y1 := HC.out.k1
 have y2 := HC.out.x2
 have y3 := HC.out.x3
 have HCL := zaa.mk (zcU (clsAt t i).f0 w5 hnm)
 obtain ⟨g, hg⟩ : ∃ g, g = word great (clsAt t i).f0 := ⟨_, rfl⟩
 rw [← hg] at HCL HF
 clear hg
 go_wp2_with fail
 refine HCL.out.mono ?_
 rintro e w6 ⟨rfl, hb6⟩
 replace HC := zaa.mk (HC.out.below hb6)
 replace HB := zaa.mk (HB.out.trans (hb6.mono HB.out.size))
 clear hb6 HCL y0 y1 y2 y3
 have y1 := HC.out.k1
 have y2 := HC.out.x2
 have y3 := HC.out.x3
 cases g with
 | false =>
  rw [if_pos rfl] at HF
  go_wp2_with fail
  go_ret
  exact ⟨by rw [HF.out]; rfl, HB.out⟩
 | true =>
  rw [if_neg d9] at HF
  by_cases h1 : at1 t (clsAt t i).f0 < (i : Int)
  ·
   rw [if_pos h1] at HF
   go_wp2_with fail
   go_ret
   exact ⟨by rw [HF.out]; rfl, HB.out⟩
  ·
   rw [if_neg h1] at HF
   obtain ⟨F2, hF2⟩ : ∃ F2, F2 = (clsAt t i).f2.length := ⟨_, rfl⟩
   obtain ⟨F3, hF3⟩ : ∃ F3, F3 = (clsAt t i).f3.length := ⟨_, rfl⟩
   have HCQ := zaa.mk (zdI A3 c3 (clsAt t i).f3 w6 HC.out.C3 HM.out)
   rw [← hF2] at y2 HF
   rw [← hF3] at y3 HF HCQ
   have h2 : F2 ≤ F2 := Nat.le_refl _
   obtain ⟨q, hq⟩ : ∃ q, q = manyB (clsAt t i).f3 := ⟨_, rfl⟩
   rw [← hq] at HF HCQ
   clear hq hF2 hF3 h2
   by_cases hA : 20 < F2
   ·
    have hA' : decide (20 < (F2 : Int)) = true := by simp; omega
    rw [if_pos (.inl hA)] at HF
    go_wp2_with fail
    go_ret
    exact ⟨by rw [HF.out]; rfl, HB.out⟩
   ·
    have hA' : decide (20 < (F2 : Int)) = false := by simp; omega
    by_cases hB : 20 < F3
    ·
     have hB' : decide (20 < (F3 : Int)) = true := by simp; omega
     rw [if_pos (.inr (.inl hB))] at HF
     go_wp2_with fail
     go_ret
     exact ⟨by rw [HF.out]; rfl, HB.out⟩
    ·
     have hB' : decide (20 < (F3 : Int)) = false := by simp; omega
     go_wp2_with fail
     refine HCQ.out.mono ?_
     rintro e w7 ⟨rfl, hb7⟩
     replace HB := zaa.mk (HB.out.trans (hb7.mono HB.out.size))
     clear hb7 HCQ y1 y2 y3
     cases q with
     | true =>
      rw [if_pos (.inr (.inr rfl))] at HF
      go_wp2_with fail
      go_ret
      exact ⟨by rw [HF.out]; rfl, HB.out⟩
     | false =>
      rw [if_neg (by simp; omega)] at HF
      go_wp2_with fail
      go_ret
      exact ⟨by rw [HF.out]; rfl, HB.out⟩
theorem zed (nm : ByteArray) : ∀ (l : List (S43)) (k : Nat), (∃ x ∈ l, x.f0 = nm) → ¬ idxC nm l k < 0
 | [], _, h => by obtain ⟨_, h, _⟩ := h; cases h
 | x :: r, k, h => by
  unfold idxC
  by_cases he : x.f0.toList = nm.toList
  ·
   rw [if_pos he]; omega
  ·
   rw [if_neg he]
   obtain ⟨y, hy, e⟩ := h
   rcases List.mem_cons.1 hy with rfl | hy
   ·
    exact absurd (by rw [e]) he
   ·
    exact zed nm r (k + 1) ⟨y, hy, e⟩
theorem zfb (t : List (S43)) (p : Nat) (h : p < t.length) : clsAt t p ∈ t := by
 unfold clsAt zbF
 rw [Int.toNat_natCast, List.getD_eq_getElem?_getD, List.getElem?_eq_getElem h]
 exact List.getElem_mem h
theorem zft (t : List (S43)) (i : Nat) (h : i < t.length) : lineL t (clsAt t i).f0 ≠ [] := by
 have hh := zed (clsAt t i).f0 t 0 ⟨_, zfb t i h, rfl⟩
 unfold lineL
 unfold lineP
 rw [if_neg hh]
 simp
theorem zgO (t : List (S43)) (nm : ByteArray) : (supL t nm).length ≤ t.length + 1 := by unfold supL; rw [List.length_map]; exact zci t nm
def lastN (t : List (S43)) (nm : ByteArray) : ByteArray := rdOf ⟨#[]⟩ (supL t nm) (((supL t nm).length : Int) - 1)
theorem zgq (t : List (S43)) (i : Nat) (h : i < t.length) : ∃ p, p < t.length ∧ lastN t (clsAt t i).f0 = (clsAt t p).f0 := by
 have h0 := List.length_pos_iff.2 (zft t i h)
 have h1 : (supL t (clsAt t i).f0).length = (lineL t (clsAt t i).f0).length := by simp [supL]
 have hm : lastN t (clsAt t i).f0 ∈ supL t (clsAt t i).f0 := by
  unfold lastN rdOf
  rw [List.getD_eq_getElem?_getD, List.getElem?_eq_getElem o9]
  exact List.getElem_mem _
 obtain ⟨p, hp, e⟩ := List.mem_map.1 hm
 exact ⟨p, zcd t _ _ _ p hp, e.symm⟩
theorem zhG (t : List (S43)) (nm : ByteArray) (h : ∃ p, p < t.length ∧ nm = (clsAt t p).f0) : 0 ≤ at1 t nm ∧ at1 t nm < t.length := by
 obtain ⟨p, hp, rfl⟩ := h
 have hh := zed (clsAt t p).f0 t 0 ⟨_, zfb t p hp, rfl⟩
 have := ze4 (clsAt t p).f0 t 0
 unfold at1
 rw [if_neg hh]
 omega
def zfp (t : List (S43)) (i : Nat) : Int :=
 if ¬ (clsAt t i).f1.toList = [] ∧ is1 t (clsAt t i).f1 = false then 6 else if (clsAt t (at1 t (lastN t (clsAt t i).f0)).toNat).f1.toList = (clsAt t i).f0.toList then 9 else 0
theorem zeQ (kb : Nat) (A0 : Option Addr) (c0 : Nat) (t : List (S43)) (i : Nat) (v2 v3 : Value) (w : World) (h : Chk w kb A0 c0 t i v2 v3) :
  Calls Tryd.prog 25 #[.pointer (some ⟨kb, 0, none⟩)] w fun e w' => e = .returned (.int .i64 (zfp t i)) ∧ Below w.heap.size w w' := by
 have HCC := zaa.mk (zbS kb A0 c0 t i v2 v3 w h)
 obtain ⟨ad, A2, c2, A3, c3, rfl, hc⟩ := h.cls
 have HC := zaa.mk hc
 simp only [encP, Option.map_some] at HCC
 obtain ⟨r, hr⟩ : ∃ r, r = zfp t i := ⟨_, rfl⟩
 have HF := zaa.mk hr
 rw [← hr]
 unfold zfp at HF
 clear h hc hr
 have hu := Tryd.underlying58
 have hu2 := Tryd.underlying43
 go_enter Tryd.func25, Tryd.ntmps25
 go_wp2_with fail
 refine HCC.out.mono ?_
 rintro e w1 ⟨rfl, hb1⟩
 replace HC := zaa.mk (HC.out.below hb1)
 have HB := zaa.mk hb1
 clear hb1 HCC
 go_wp2_with fail
 have HD := zaa.mk HC.out.drew
 refine zbq (N := 68) 14 Grows k9 k9 rfl Grows.refl Grows.trans ?_
 rw [show List.range 14 = [0, 1, 2, 3, 4, 5, 6, 7, 8, 9, 10, 11, 12, 13] from rfl]
 refine rgv (.pointer (some ⟨kb, 0, none⟩)) ?_ ?_
 ·
  intro a w' hr hs
  have h0 := hs.ov 0 (.pointer (some ⟨kb, 0, none⟩))
  go_simp
 refine rgv (.pointer (some ⟨kb, 0, none⟩)) ?_ ?_
 ·
  intro a w' hr hs
  have h12 := hs.gv 0 rfl rfl
  go_simp
 refine rgv (.pointer (some ⟨kb, 0, none⟩)) ?_ ?_
 ·
  intro a w' hr hs
  have h13 := hs.gv 0 rfl rfl
  go_simp
 refine rgv (.slice (some ad) t.length c0) ?_ ?_
 ·
  intro a w' hr hs
  have h14 := hs.gv 0 rfl rfl
  have g := (HD.out.below hr).k0
  go_simp
 refine rgv (.pointer (some (ad.add (i * 4)))) ?_ ?_
 ·
  intro a w' hr hs
  have h3 := hs.ov 3 (.pointer (some (ad.add (i * 4))))
  go_simp
 refine rgv (.pointer (some (ad.add (i * 4)))) ?_ ?_
 ·
  intro a w' hr hs
  have h16 := hs.gv 0 rfl rfl
  go_simp
 refine rgv (.pointer (some ⟨(ad.add (i * 4)).block, (ad.add (i * 4)).off + 1, none⟩)) ?_ ?_
 ·
  intro a w' hr hs
  have h17 := hs.gv 0 rfl rfl
  go_simp
 refine rgv (.string (clsAt t i).f1) ?_ ?_
 ·
  intro a w' hr hs
  have h18 := hs.gv 0 rfl rfl
  have g := (HD.out.below hr).x1
  go_simp
 refine rgc (fun v _ => v = .tuple #[.int .i64 (at1 t (clsAt t i).f1), .bool (is1 t (clsAt t i).f1)]) Tryd.func14 ?_ ?_
 ·
  intro a w' hr hs
  have h15 := hs.gv 4 rfl rfl
  have h19 := hs.gv 0 rfl rfl
  rw [show (#[Operand.tmp 15, Operand.tmp 19] : Array Operand).map a.eval = #[.slice (some ad) t.length c0, .string (clsAt t i).f1] by simp [Act.eval, h15, h19]]
  refine (zbL (some ad) c0 t (clsAt t i).f1 _ (HD.out.below hr).tab HD.out.max).mono ?_
  rintro e w3 ⟨rfl, hb⟩
  exact ⟨_, rfl, hb, rfl⟩
 refine rgv (.tuple #[.int .i64 (at1 t (clsAt t i).f1), .bool (is1 t (clsAt t i).f1)]) ?_ ?_
 ·
  intro a w' hr hs
  have h20 := hs.gv 0 rfl rfl
  go_simp
 refine rgv (.int .i64 (at1 t (clsAt t i).f1)) ?_ ?_
 ·
  intro a w' hr hs
  have h11 := hs.gv 0 rfl rfl
  go_simp
 refine rgv (.bool (is1 t (clsAt t i).f1)) ?_ ?_
 ·
  intro a w' hr hs
  have h11 := hs.gv 1 rfl rfl
  go_simp
 refine rgv (.int .i64 (at1 t (clsAt t i).f1)) ?_ ?_
 ·
  intro a w' hr hs
  have h21 := hs.gv 1 rfl rfl
  go_simp
 refine rgv (.bool (is1 t (clsAt t i).f1)) ?_ ?_
 ·
  intro a w' hr hs
  have h22 := hs.gv 1 rfl rfl
  go_simp
 intro vs w5 hr hE
 have e0 : vs 0 = .pointer (some ⟨kb, 0, none⟩) := hE _ (zaf 13 rfl)
 have e1 : vs 1 = .pointer (some ⟨kb, 0, none⟩) := hE _ (zaf 12 rfl)
 have e2 : vs 2 = .pointer (some ⟨kb, 0, none⟩) := hE _ (zaf 11 rfl)
 have e3 : vs 3 = .slice (some ad) t.length c0 := hE _ (zaf 10 rfl)
 have e4 : vs 4 = .pointer (some (ad.add (i * 4))) := hE _ (zaf 9 rfl)
 have e5 : vs 5 = .pointer (some (ad.add (i * 4))) := hE _ (zaf 8 rfl)
 have e6 : vs 6 = .pointer (some ⟨(ad.add (i * 4)).block, (ad.add (i * 4)).off + 1, none⟩) := hE _ (zaf 7 rfl)
 have e7 : vs 7 = .string (clsAt t i).f1 := hE _ (zaf 6 rfl)
 have e8 : vs 8 = .tuple #[.int .i64 (at1 t (clsAt t i).f1), .bool (is1 t (clsAt t i).f1)] := hE _ (zaf 5 rfl)
 have e9 : vs 9 = .tuple #[.int .i64 (at1 t (clsAt t i).f1), .bool (is1 t (clsAt t i).f1)] := hE _ (zaf 4 rfl)
 have e10 : vs 10 = .int .i64 (at1 t (clsAt t i).f1) := hE _ (zaf 3 rfl)
 have e11 : vs 11 = .bool (is1 t (clsAt t i).f1) := hE _ (zaf 2 rfl)
 have e12 : vs 12 = .int .i64 (at1 t (clsAt t i).f1) := hE _ (zaf 1 rfl)
 have e13 : vs 13 = .bool (is1 t (clsAt t i).f1) := hE _ (zaf 0 rfl)
 rw [show List.range 14 = [0, 1, 2, 3, 4, 5, 6, 7, 8, 9, 10, 11, 12, 13] from rfl]
 simp only [ps, ga, pa, e0, e1, e2, e3, e4, e5, e6, e7, e8, e9, e10, e11, e12, e13]
 clear hE e0 e1 e2 e3 e4 e5 e6 e7 e8 e9 e10 e11 e12 e13
 refine zbd ?_
 replace HB := zaa.mk (HB.out.trans (((Below.refl w1.heap.size w1).drew.trans hr).mono HB.out.size))
 replace HC := zaa.mk (HD.out.below hr)
 clear HD hr
 have y1 := HC.out.x1
 have rest : ∀ (r : Int), ((clsAt t (at1 t (lastN t (clsAt t i).f0)).toNat).f1.toList = (clsAt t i).f0.toList ∧ r = 9 ∨ ¬ (clsAt t (at1 t (lastN t (clsAt t i).f0)).toNat).f1.toList = (clsAt t i).f0.toList ∧ r = 0) → True := fun _ _ => trivial
 obtain ⟨s1, hs1⟩ : ∃ s1, s1 = (clsAt t i).f1 := ⟨_, rfl⟩
 obtain ⟨b1, hb1⟩ : ∃ b1, b1 = is1 t (clsAt t i).f1 := ⟨_, rfl⟩
 rw [← hs1] at y1 HF
 rw [← hb1]
 rw [hs1, ← hb1, ← hs1] at HF
 clear hs1 hb1 rest
 by_cases hbad : ¬ s1.toList = [] ∧ b1 = false
 ·
  rw [if_pos hbad] at HF
  obtain ⟨hz, rfl⟩ := hbad
  have hz1 : s1.toList.isEmpty = false := by cases h : s1.toList <;> simp_all
  have hz2 : (!s1.toList.isEmpty) = true := by rw [hz1]; rfl
  have hz3 : (s1.toList != []) = true := by simpa using hz
  go_wp2_with fail
  go_ret
  exact ⟨by rw [HF.out]; rfl, HB.out⟩
 rw [if_neg hbad] at HF
 have key : s1.toList = [] ∨ (¬ s1.toList = [] ∧ b1 = true) := by
  by_cases hz : s1.toList = []
  ·
   exact .inl hz
  ·
   refine .inr ⟨hz, ?_⟩
   cases b1 with
   | false => exact absurd ⟨hz, rfl⟩ hbad
   | true => rfl
 clear hbad
 have hne := List.length_pos_iff.2 (zft t i HC.out.lt)
 have hsl : (supL t (clsAt t i).f0).length = (lineL t (clsAt t i).f0).length := by simp [supL]
 have hsm := zgO t (clsAt t i).f0
 have htm := HC.out.max
 obtain ⟨q, hq, hql⟩ : ∃ q : Nat, at1 t (lastN t (clsAt t i).f0) = (q : Int) ∧ q < t.length := by
  have := zhG t _ (zgq t i HC.out.lt)
  exact ⟨(at1 t (lastN t (clsAt t i).f0)).toNat, by omega, by omega⟩
 rw [hq, Int.toNat_natCast] at HF
 have HQ := zaa.mk hq
 have HN := zaa.mk (show 0 < (supL t (clsAt t i).f0).length ∧ (supL t (clsAt t i).f0).length ≤ 4398046511104 by omega)
 clear hq hne hsl hsm htm
 rcases key with hz | ⟨hz, rfl⟩
 case' inl =>
  have hz1 : s1.toList.isEmpty = true := by rw [hz]; rfl
  have hz2 : (!s1.toList.isEmpty) = false := by rw [hz]; rfl
  have hz3 : (s1.toList != []) = false := by rw [hz]; rfl
  go_wp2_with fail
 case' inr =>
  have hz1 : s1.toList.isEmpty = false := by cases h : s1.toList <;> simp_all
  have hz2 : (!s1.toList.isEmpty) = true := by rw [hz1]; rfl
  have hz3 : (s1.toList != []) = true := by simpa using hz
  go_wp2_with fail
 all_goals
  clear y1 hz hz1 hz2 hz3
  have HD := zaa.mk HC.out.drew
  refine zbq (N := 68) 10 Grows k9 k9 rfl Grows.refl Grows.trans ?_
  rw [show List.range 10 = [0, 1, 2, 3, 4, 5, 6, 7, 8, 9] from rfl]
  refine rgv (.pointer (some ⟨kb, 0, none⟩)) ?_ ?_
  ·
   intro a w' hr hs
   have h0 := hs.ov 0 (.pointer (some ⟨kb, 0, none⟩))
   go_simp
  refine rgv (.pointer (some ⟨kb, 0, none⟩)) ?_ ?_
  ·
   intro a w' hr hs
   have h32 := hs.gv 0 rfl rfl
   go_simp
  refine rgv (.pointer (some ⟨kb, 0, none⟩)) ?_ ?_
  ·
   intro a w' hr hs
   have h33 := hs.gv 0 rfl rfl
   go_simp
  refine rgv (.slice (some ad) t.length c0) ?_ ?_
  ·
   intro a w' hr hs
   have h34 := hs.gv 0 rfl rfl
   have g := (HD.out.below hr).k0
   go_simp
  refine rgv (.pointer (some (ad.add (i * 4)))) ?_ ?_
  ·
   intro a w' hr hs
   have h3 := hs.ov 3 (.pointer (some (ad.add (i * 4))))
   go_simp
  refine rgv (.pointer (some (ad.add (i * 4)))) ?_ ?_
  ·
   intro a w' hr hs
   have h36 := hs.gv 0 rfl rfl
   go_simp
  refine rgv (.pointer (some (ad.add (i * 4)))) ?_ ?_
  ·
   intro a w' hr hs
   have h37 := hs.gv 0 rfl rfl
   go_simp
  refine rgv (.string (clsAt t i).f0) ?_ ?_
  ·
   intro a w' hr hs
   have h38 := hs.gv 0 rfl rfl
   have g := (HD.out.below hr).x0
   go_simp
  refine rgc (OneR Kd.string 9 (supL t (clsAt t i).f0) (fun u => u)) Tryd.func34 ?_ ?_
  ·
   intro a w' hr hs
   have h35 := hs.gv 4 rfl rfl
   have h39 := hs.gv 0 rfl rfl
   rw [show (#[Operand.tmp 35, Operand.tmp 39] : Array Operand).map a.eval = #[.slice (some ad) t.length c0, .string (clsAt t i).f0] by simp [Act.eval, h35, h39]]
   refine (zcy (some ad) c0 t (clsAt t i).f0 _ (HD.out.below hr).tab HD.out.max).mono ?_
   rintro e w3 ⟨v, rfl, hR, hb⟩
   exact ⟨_, rfl, hb, OneR.of (p := fun u => u) hR⟩
  refine rgk (OneR Kd.string 9 (supL t (clsAt t i).f0) (fun u => u)) ?_ ?_
  ·
   intro a w' hr hs
   obtain ⟨A, c, hA, hc, hC, hR⟩ := hs.rd 0 rfl rfl
   try simp only at hA
   exact ⟨.slice A (supL t (clsAt t i).f0).length c, by go_simp, _, rfl, hR⟩
  intro vs w6 hr hE
  obtain ⟨A8_, c8_, e8, l8_, C8_, R8_⟩ := OneR.reads (hE _ (zaf 1 rfl))
  replace e8 : vs 8 = .slice A8_ (supL t (clsAt t i).f0).length c8_ := e8
  obtain ⟨A9_, c9_, e9, l9_, C9_, R9_⟩ := OneR.reads (hE _ (zaf 0 rfl))
  replace e9 : vs 9 = .slice A9_ (supL t (clsAt t i).f0).length c9_ := e9
  have e0 : vs 0 = .pointer (some ⟨kb, 0, none⟩) := hE _ (zaf 9 rfl)
  have e1 : vs 1 = .pointer (some ⟨kb, 0, none⟩) := hE _ (zaf 8 rfl)
  have e2 : vs 2 = .pointer (some ⟨kb, 0, none⟩) := hE _ (zaf 7 rfl)
  have e3 : vs 3 = .slice (some ad) t.length c0 := hE _ (zaf 6 rfl)
  have e4 : vs 4 = .pointer (some (ad.add (i * 4))) := hE _ (zaf 5 rfl)
  have e5 : vs 5 = .pointer (some (ad.add (i * 4))) := hE _ (zaf 4 rfl)
  have e6 : vs 6 = .pointer (some (ad.add (i * 4))) := hE _ (zaf 3 rfl)
  have e7 : vs 7 = .string (clsAt t i).f0 := hE _ (zaf 2 rfl)
  rw [show List.range 10 = [0, 1, 2, 3, 4, 5, 6, 7, 8, 9] from rfl]
  simp only [ps, ga, pa, e0, e1, e2, e3, e4, e5, e6, e7, e8, e9]
  clear hE e0 e1 e2 e3 e4 e5 e6 e7 e8 e9
  refine zbd ?_
  replace HB := zaa.mk (HB.out.trans (((Below.refl w5.heap.size w5).drew.trans hr).mono HB.out.size))
  replace HC := zaa.mk (HD.out.below hr)
  clear HD hr
  obtain ⟨M, hM⟩ : ∃ M, (supL t (clsAt t i).f0).length = M + 1 := ⟨(supL t (clsAt t i).f0).length - 1, by have := HN.out; omega⟩
  have hn := HN.out
  rw [hM] at hn
  obtain ⟨adL, hAL, xL⟩ := (Kd.zcK (d := ⟨#[]⟩) C9_).at_ (M : Int) o9 o9
  have hlast : rdOf ⟨#[]⟩ (supL t (clsAt t i).f0) (M : Int) = lastN t (clsAt t i).f0 := by unfold lastN; rw [hM]; simp
  rw [hlast, Int.toNat_natCast] at xL
  rw [hM]
  have hw1 : IntKind.i64.wrap (M : Int) = (M : Int) := IntWalk.i64_in _ o9
  have hl0 : (0 : Int) ≤ (M : Int) := by omega
  have hl1 : (M : Int) < (M : Int) + 1 := by omega
  subst hAL
  clear hM hlast C9_ R9_ l9_ C8_ R8_ l8_
  go_wp2_with fail
  have HD := zaa.mk HC.out.drew
  have XD := zaa.mk (show w6.drew.cell? (adL.add M) = some (.string (lastN t (clsAt t i).f0)) from xL)
  clear xL
  refine zbq (N := 68) 16 Grows k9 k9 rfl Grows.refl Grows.trans ?_
  rw [show List.range 16 = [0, 1, 2, 3, 4, 5, 6, 7, 8, 9, 10, 11, 12, 13, 14, 15] from rfl]
  refine rgv (.pointer (some ⟨kb, 0, none⟩)) ?_ ?_
  ·
   intro a w' hr hs
   have h0 := hs.ov 0 (.pointer (some ⟨kb, 0, none⟩))
   go_simp
  refine rgv (.pointer (some ⟨kb, 0, none⟩)) ?_ ?_
  ·
   intro a w' hr hs
   have h42 := hs.gv 0 rfl rfl
   go_simp
  refine rgv (.pointer (some ⟨kb, 0, none⟩)) ?_ ?_
  ·
   intro a w' hr hs
   have h43 := hs.gv 0 rfl rfl
   go_simp
  refine rgv (.slice (some ad) t.length c0) ?_ ?_
  ·
   intro a w' hr hs
   have h44 := hs.gv 0 rfl rfl
   have g := (HD.out.below hr).k0
   go_simp
  refine rgv (.slice (some adL) (M + 1) c9_) ?_ ?_
  ·
   intro a w' hr hs
   have h6 := hs.ov 6 (.slice (some adL) (M + 1) c9_)
   go_simp
  refine rgv (.slice (some adL) (M + 1) c9_) ?_ ?_
  ·
   intro a w' hr hs
   have h6 := hs.ov 6 (.slice (some adL) (M + 1) c9_)
   go_simp
  refine rgv (.int .i64 ((M : Int) + 1)) ?_ ?_
  ·
   intro a w' hr hs
   have h47 := hs.gv 0 rfl rfl
   go_simp
  refine rgv (.int .i64 (M : Int)) ?_ ?_
  ·
   intro a w' hr hs
   have h48 := hs.gv 0 rfl rfl
   go_simp
  refine rgv (.pointer (some (adL.add M))) ?_ ?_
  ·
   intro a w' hr hs
   have h46 := hs.gv 3 rfl rfl
   have h49 := hs.gv 0 rfl rfl
   go_simp
  refine rgv (.string (lastN t (clsAt t i).f0)) ?_ ?_
  ·
   intro a w' hr hs
   have h50 := hs.gv 0 rfl rfl
   have g := (hr.cell (w := w6.drew) (block_lt_of_cell XD.out)).trans XD.out
   go_simp
  refine rgc (fun v _ => v = .tuple #[.int .i64 (at1 t (lastN t (clsAt t i).f0)), .bool (is1 t (lastN t (clsAt t i).f0))]) Tryd.func14 ?_ ?_
  ·
   intro a w' hr hs
   have h45 := hs.gv 6 rfl rfl
   have h51 := hs.gv 0 rfl rfl
   rw [show (#[Operand.tmp 45, Operand.tmp 51] : Array Operand).map a.eval = #[.slice (some ad) t.length c0, .string (lastN t (clsAt t i).f0)] by simp [Act.eval, h45, h51]]
   refine (zbL (some ad) c0 t (lastN t (clsAt t i).f0) _ (HD.out.below hr).tab HD.out.max).mono ?_
   rintro e w3 ⟨rfl, hb⟩
   exact ⟨_, rfl, hb, rfl⟩
  refine rgv (.tuple #[.int .i64 (at1 t (lastN t (clsAt t i).f0)), .bool (is1 t (lastN t (clsAt t i).f0))]) ?_ ?_
  ·
   intro a w' hr hs
   have h52 := hs.gv 0 rfl rfl
   go_simp
  refine rgv (.int .i64 (at1 t (lastN t (clsAt t i).f0))) ?_ ?_
  ·
   intro a w' hr hs
   have h41 := hs.gv 0 rfl rfl
   go_simp
  refine rgv (.bool (is1 t (lastN t (clsAt t i).f0))) ?_ ?_
  ·
   intro a w' hr hs
   have h41 := hs.gv 1 rfl rfl
   go_simp
  refine rgv (.int .i64 (at1 t (lastN t (clsAt t i).f0))) ?_ ?_
  ·
   intro a w' hr hs
   have h53 := hs.gv 1 rfl rfl
   go_simp
  refine rgv (.bool (is1 t (lastN t (clsAt t i).f0))) ?_ ?_
  ·
   intro a w' hr hs
   have h54 := hs.gv 1 rfl rfl
   go_simp
  intro vs w7 hr hE
  have e0 : vs 0 = .pointer (some ⟨kb, 0, none⟩) := hE _ (zaf 15 rfl)
  have e1 : vs 1 = .pointer (some ⟨kb, 0, none⟩) := hE _ (zaf 14 rfl)
  have e2 : vs 2 = .pointer (some ⟨kb, 0, none⟩) := hE _ (zaf 13 rfl)
  have e3 : vs 3 = .slice (some ad) t.length c0 := hE _ (zaf 12 rfl)
  have e4 : vs 4 = .slice (some adL) (M + 1) c9_ := hE _ (zaf 11 rfl)
  have e5 : vs 5 = .slice (some adL) (M + 1) c9_ := hE _ (zaf 10 rfl)
  have e6 : vs 6 = .int .i64 ((M : Int) + 1) := hE _ (zaf 9 rfl)
  have e7 : vs 7 = .int .i64 (M : Int) := hE _ (zaf 8 rfl)
  have e8 : vs 8 = .pointer (some (adL.add M)) := hE _ (zaf 7 rfl)
  have e9 : vs 9 = .string (lastN t (clsAt t i).f0) := hE _ (zaf 6 rfl)
  have e10 : vs 10 = .tuple #[.int .i64 (at1 t (lastN t (clsAt t i).f0)), .bool (is1 t (lastN t (clsAt t i).f0))] := hE _ (zaf 5 rfl)
  have e11 : vs 11 = .tuple #[.int .i64 (at1 t (lastN t (clsAt t i).f0)), .bool (is1 t (lastN t (clsAt t i).f0))] := hE _ (zaf 4 rfl)
  have e12 : vs 12 = .int .i64 (at1 t (lastN t (clsAt t i).f0)) := hE _ (zaf 3 rfl)
  have e13 : vs 13 = .bool (is1 t (lastN t (clsAt t i).f0)) := hE _ (zaf 2 rfl)
  have e14 : vs 14 = .int .i64 (at1 t (lastN t (clsAt t i).f0)) := hE _ (zaf 1 rfl)
  have e15 : vs 15 = .bool (is1 t (lastN t (clsAt t i).f0)) := hE _ (zaf 0 rfl)
  rw [show List.range 16 = [0, 1, 2, 3, 4, 5, 6, 7, 8, 9, 10, 11, 12, 13, 14, 15] from rfl]
  simp only [ps, ga, pa, e0, e1, e2, e3, e4, e5, e6, e7, e8, e9, e10, e11, e12, e13, e14, e15]
  clear hE e0 e1 e2 e3 e4 e5 e6 e7 e8 e9 e10 e11 e12 e13 e14 e15
  refine zbd ?_
  replace HB := zaa.mk (HB.out.trans (((Below.refl w6.heap.size w6).drew.trans hr).mono HB.out.size))
  replace HC := zaa.mk (HD.out.below hr)
  clear HD hr XD
  rw [HQ.out]
  go_wp2_with fail
  have HD := zaa.mk HC.out.drew
  obtain ⟨ad', B2, d2, B3, d3, e', z0, z1, -, -, -, -, -, -⟩ := zb0 HD.out.tab (q : Int) o9 o9
  cases e'
  simp only [Int.toNat_natCast] at z1
  have XD := zaa.mk (show w7.drew.cell? ⟨(ad.add (q * 4)).block, (ad.add (q * 4)).off + 1, none⟩ = some (.string (clsAt t q).f1) from z1)
  have hq0 : (0 : Int) ≤ (q : Int) := by omega
  have hq1 : (q : Int) < (t.length : Int) := by omega
  clear z0 z1
  refine zbq (N := 68) 13 Grows k9 k9 rfl Grows.refl Grows.trans ?_
  rw [show List.range 13 = [0, 1, 2, 3, 4, 5, 6, 7, 8, 9, 10, 11, 12] from rfl]
  refine rgv (.pointer (some ⟨kb, 0, none⟩)) ?_ ?_
  ·
   intro a w' hr hs
   have h0 := hs.ov 0 (.pointer (some ⟨kb, 0, none⟩))
   go_simp
  refine rgv (.pointer (some ⟨kb, 0, none⟩)) ?_ ?_
  ·
   intro a w' hr hs
   have h55 := hs.gv 0 rfl rfl
   go_simp
  refine rgv (.pointer (some ⟨kb, 0, none⟩)) ?_ ?_
  ·
   intro a w' hr hs
   have h56 := hs.gv 0 rfl rfl
   go_simp
  refine rgv (.slice (some ad) t.length c0) ?_ ?_
  ·
   intro a w' hr hs
   have h57 := hs.gv 0 rfl rfl
   have g := (HD.out.below hr).k0
   go_simp
  refine rgv (.int .i64 (q : Int)) ?_ ?_
  ·
   intro a w' hr hs
   have h7 := hs.ov 7 (.int .i64 (q : Int))
   go_simp
  refine rgv (.pointer (some (ad.add (q * 4)))) ?_ ?_
  ·
   intro a w' hr hs
   have h58 := hs.gv 1 rfl rfl
   have h59 := hs.gv 0 rfl rfl
   go_simp
  refine rgv (.pointer (some ⟨(ad.add (q * 4)).block, (ad.add (q * 4)).off + 1, none⟩)) ?_ ?_
  ·
   intro a w' hr hs
   have h60 := hs.gv 0 rfl rfl
   go_simp
  refine rgv (.string (clsAt t q).f1) ?_ ?_
  ·
   intro a w' hr hs
   have h61 := hs.gv 0 rfl rfl
   have g := (hr.cell (w := w7.drew) (block_lt_of_cell XD.out)).trans XD.out
   go_simp
  refine rgv (.pointer (some (ad.add (i * 4)))) ?_ ?_
  ·
   intro a w' hr hs
   have h3 := hs.ov 3 (.pointer (some (ad.add (i * 4))))
   go_simp
  refine rgv (.pointer (some (ad.add (i * 4)))) ?_ ?_
  ·
   intro a w' hr hs
   have h63 := hs.gv 0 rfl rfl
   go_simp
  refine rgv (.pointer (some (ad.add (i * 4)))) ?_ ?_
  ·
   intro a w' hr hs
   have h64 := hs.gv 0 rfl rfl
   go_simp
  refine rgv (.string (clsAt t i).f0) ?_ ?_
  ·
   intro a w' hr hs
   have h65 := hs.gv 0 rfl rfl
   have g := (HD.out.below hr).x0
   go_simp
  refine rgv (.bool ((clsAt t q).f1.toList == (clsAt t i).f0.toList)) ?_ ?_
  ·
   intro a w' hr hs
   have h62 := hs.gv 4 rfl rfl
   have h66 := hs.gv 0 rfl rfl
   go_simp
  intro vs w8 hr hE
  have e0 : vs 0 = .pointer (some ⟨kb, 0, none⟩) := hE _ (zaf 12 rfl)
  have e1 : vs 1 = .pointer (some ⟨kb, 0, none⟩) := hE _ (zaf 11 rfl)
  have e2 : vs 2 = .pointer (some ⟨kb, 0, none⟩) := hE _ (zaf 10 rfl)
  have e3 : vs 3 = .slice (some ad) t.length c0 := hE _ (zaf 9 rfl)
  have e4 : vs 4 = .int .i64 (q : Int) := hE _ (zaf 8 rfl)
  have e5 : vs 5 = .pointer (some (ad.add (q * 4))) := hE _ (zaf 7 rfl)
  have e6 : vs 6 = .pointer (some ⟨(ad.add (q * 4)).block, (ad.add (q * 4)).off + 1, none⟩) := hE _ (zaf 6 rfl)
  have e7 : vs 7 = .string (clsAt t q).f1 := hE _ (zaf 5 rfl)
  have e8 : vs 8 = .pointer (some (ad.add (i * 4))) := hE _ (zaf 4 rfl)
  have e9 : vs 9 = .pointer (some (ad.add (i * 4))) := hE _ (zaf 3 rfl)
  have e10 : vs 10 = .pointer (some (ad.add (i * 4))) := hE _ (zaf 2 rfl)
  have e11 : vs 11 = .string (clsAt t i).f0 := hE _ (zaf 1 rfl)
  have e12 : vs 12 = .bool ((clsAt t q).f1.toList == (clsAt t i).f0.toList) := hE _ (zaf 0 rfl)
  rw [show List.range 13 = [0, 1, 2, 3, 4, 5, 6, 7, 8, 9, 10, 11, 12] from rfl]
  simp only [ps, ga, pa, e0, e1, e2, e3, e4, e5, e6, e7, e8, e9, e10, e11, e12]
  clear hE e0 e1 e2 e3 e4 e5 e6 e7 e8 e9 e10 e11 e12
  refine zbd ?_
  replace HB := zaa.mk (HB.out.trans (((Below.refl w7.heap.size w7).drew.trans hr).mono HB.out.size))
  clear HD hr XD
  by_cases he : (clsAt t q).f1.toList = (clsAt t i).f0.toList
  ·
   rw [if_pos he] at HF
   have he1 : ((clsAt t q).f1.toList == (clsAt t i).f0.toList) = true := by simpa using he
   rw [he1]
   go_wp2_with fail
   go_ret
   exact ⟨by rw [HF.out]; rfl, HB.out⟩
  ·
   rw [if_neg he] at HF
   have he1 : ((clsAt t q).f1.toList == (clsAt t i).f0.toList) = false := by simpa using he
   rw [he1]
   go_wp2_with fail
   go_ret
   exact ⟨by rw [HF.out]; rfl, HB.out⟩
theorem zdT (s : ByteArray) (w : World) : Calls Tryd.prog 74 #[.string s] w fun e w' => e = .returned (.bool ((tag2 s).2 == 0)) ∧ Below w.heap.size w w' := by
 have HT := zaa.mk (zgb s w (tag2 s).1 (tag2 s).2 rfl)
 obtain ⟨x, hx⟩ : ∃ x, x = (tag2 s).1 := ⟨_, rfl⟩
 obtain ⟨y, hy⟩ : ∃ y, y = (tag2 s).2 := ⟨_, rfl⟩
 rw [← hx, ← hy] at HT
 rw [← hy]
 clear hx hy
 go_enter Tryd.func74, Tryd.ntmps74
 go_wp2_with fail
 refine HT.out.mono ?_
 rintro e w1 ⟨rfl, hb⟩
 have HB := zaa.mk hb
 clear hb HT
 go_wp2_with fail
 go_ret
 exact ⟨rfl, HB.out⟩
def kindF (s : ByteArray) : Int := if ((tag2 s).2 == 0) = true then 1 else if s.toList = [63] then 2 else if word great s = true then 3 else 0
theorem zfw (s : ByteArray) (w : World) (hs : s.size ≤ 9223372036854775807) : Calls Tryd.prog 86 #[.string s] w fun e w' => e = .returned (.int .i64 (kindF s)) ∧ Below w.heap.size w w' := by
 have HT := zaa.mk (zdT s w)
 obtain ⟨r, hr⟩ : ∃ r, r = kindF s := ⟨_, rfl⟩
 rw [← hr]
 have HF := zaa.mk hr
 have HS := zaa.mk hs
 unfold kindF at HF
 obtain ⟨b, hb⟩ : ∃ b, b = ((tag2 s).2 == 0) := ⟨_, rfl⟩
 obtain ⟨c, hc⟩ : ∃ c, c = word great s := ⟨_, rfl⟩
 rw [← hb] at HT HF
 rw [← hc] at HF
 have HCQ := zaa.mk hc
 clear hr hb hc hs
 go_enter Tryd.func86, Tryd.ntmps86
 go_wp2_with fail
 refine HT.out.mono ?_
 rintro e w1 ⟨rfl, hb⟩
 have HB := zaa.mk hb
 clear hb HT
 cases b with
 | true =>
  rw [if_pos rfl] at HF
  go_wp2_with fail
  go_ret
  exact ⟨by rw [HF.out]; rfl, HB.out⟩
 | false =>
  rw [if_neg d9] at HF
  by_cases hq : s.toList = [63]
  ·
   have hq1 : (s.toList == [63]) = true := by simpa using hq
   rw [if_pos hq] at HF
   clear hq
   go_wp2_with fail
   go_ret
   exact ⟨by rw [HF.out]; rfl, HB.out⟩
  ·
   have hq1 : (s.toList == [63]) = false := by simpa using hq
   rw [if_neg hq] at HF
   clear hq
   have HCL := zaa.mk (zcU s w1 HS.out)
   rw [← HCQ.out] at HCL
   go_wp2_with fail
   refine HCL.out.mono ?_
   rintro e w2 ⟨rfl, hb2⟩
   replace HB := zaa.mk (HB.out.trans (hb2.mono HB.out.size))
   clear hb2 HCL
   cases c with
   | true =>
    rw [if_pos rfl] at HF
    go_wp2_with fail
    go_ret
    exact ⟨by rw [HF.out]; rfl, HB.out⟩
   | false =>
    rw [if_neg d9] at HF
    go_wp2_with fail
    go_ret
    exact ⟨by rw [HF.out]; rfl, HB.out⟩
def typeB (s : ByteArray) : Bool := kindF s != 0
theorem zfH (s : ByteArray) (w : World) (hs : s.size ≤ 9223372036854775807) : Calls Tryd.prog 80 #[.string s] w fun e w' => e = .returned (.bool (typeB s)) ∧ Below w.heap.size w w' := by
 have HT := zaa.mk (zfw s w hs)
 unfold typeB
 obtain ⟨k, hk⟩ : ∃ k, k = kindF s := ⟨_, rfl⟩
 rw [← hk] at HT ⊢
 clear hk
 go_enter Tryd.func80, Tryd.ntmps80
 go_wp2_with fail
 refine HT.out.mono ?_
 rintro e w1 ⟨rfl, hb⟩
 have HB := zaa.mk hb
 clear hb HT
 go_wp2_with fail
 go_ret
 exact ⟨rfl, HB.out⟩
def zcf (t : List (S43)) (nm ty : ByteArray) : Int :=
 if (nm.toList.isEmpty = false ∧ nameB nm = false) ∨ typeB ty = false then 5 else if word great ty = true ∧ is1 t ty = false then 6 else 0
theorem zcQ (A0 : Option Addr) (c0 : Nat) (t : List (S43)) (nm ty : ByteArray) (w : World) (hr0 : Kd.C k43 w A0 t.length t) (hlt : t.length < 4398046511104) (hnm : nm.size ≤ 9223372036854775807) (hty : ty.size ≤ 9223372036854775807) (hG : GW w) :
  Calls Tryd.prog 67 #[.slice A0 t.length c0, .string nm, .string ty] w fun e w' => e = .returned (.int .i64 (zcf t nm ty)) ∧ Below w.heap.size w w' := by
 obtain ⟨r, hr⟩ : ∃ r, r = zcf t nm ty := ⟨_, rfl⟩
 rw [← hr]
 have HF := zaa.mk hr
 unfold zcf at HF
 have HR0 := zaa.mk hr0
 have HG := zaa.mk hG
 obtain ⟨b1, hb1⟩ : ∃ b, b = nameB nm := ⟨_, rfl⟩
 obtain ⟨b2, hb2⟩ : ∃ b, b = typeB ty := ⟨_, rfl⟩
 obtain ⟨b3, hb3⟩ : ∃ b, b = word great ty := ⟨_, rfl⟩
 obtain ⟨b4, hb4⟩ : ∃ b, b = is1 t ty := ⟨_, rfl⟩
 rw [← hb1, ← hb2, ← hb3, ← hb4] at HF
 have HN := zaa.mk (zdX nm w hnm hG)
 rw [← hb1] at HN
 have HT := zaa.mk fun w => zfH ty w hty
 have HFD := zaa.mk fun w (h : Kd.C k43 w A0 t.length t) => zbL A0 c0 t ty w h hlt
 have HCL := zaa.mk fun w => zcU ty w hty
 simp only [← hb2] at HT
 simp only [← hb4] at HFD
 simp only [← hb3] at HCL
 clear hb1 hb2 hb3 hb4 hr hr0 hG
 obtain ⟨at2, hat⟩ : ∃ a, a = at1 t ty := ⟨_, rfl⟩
 simp only [← hat] at HFD
 clear hat
 have HB := zaa.mk (Below.refl w.heap.size w)
 go_enter Tryd.func67, Tryd.ntmps67
 obtain ⟨z, hz⟩ : ∃ z : Bool, z = nm.toList.isEmpty := ⟨_, rfl⟩
 have hz1 : nm.toList.isEmpty = z := hz.symm
 have hz2 : (!nm.toList.isEmpty) = !z := by rw [hz1]
 have hz3 : (nm.toList != []) = !z := by rw [hz]; cases nm.toList <;> rfl
 rw [hz1] at HF
 clear hz
 by_cases hbad : z = false ∧ b1 = false
 ·
  obtain ⟨rfl, rfl⟩ := hbad
  rw [if_pos (.inl ⟨rfl, rfl⟩)] at HF
  go_wp2_with fail
  refine HN.out.mono ?_
  rintro e w1 ⟨rfl, hb⟩
  replace HB := zaa.mk (HB.out.trans (hb.mono HB.out.size))
  clear hb HN
  go_wp2_with fail
  go_ret
  exact ⟨by rw [HF.out]; rfl, HB.out⟩
 ·
  have key : z = true ∨ (z = false ∧ b1 = true) := by cases z <;> cases b1 <;> simp_all
  have hno := hbad
  clear hbad
  rcases key with rfl | ⟨rfl, rfl⟩
  case' inl => go_wp2_with fail
  case' inr =>
   go_wp2_with fail
   refine HN.out.mono ?_
   rintro e w1 ⟨rfl, hb⟩
   replace HB := zaa.mk (HB.out.trans (hb.mono HB.out.size))
   clear hb HN
   go_wp2_with fail
  all_goals
   refine (HT.out _).mono ?_
   rintro e w2 ⟨rfl, hb⟩
   replace HB := zaa.mk (HB.out.trans (hb.mono HB.out.size))
   clear hb
   cases b2 with
   | false =>
    rw [if_pos (.inr rfl)] at HF
    go_wp2_with fail
    go_ret
    exact ⟨by rw [HF.out]; rfl, HB.out⟩
   | true =>
    rw [if_neg (fun h => h.elim hno (fun h => by cases h))] at HF
    go_wp2_with fail
    refine (HFD.out _ (Kd.zay HR0.out HB.out)).mono ?_
    rintro e w3 ⟨rfl, hb⟩
    replace HB := zaa.mk (HB.out.trans (hb.mono HB.out.size))
    clear hb
    go_wp2_with fail
    refine (HCL.out _).mono ?_
    rintro e w4 ⟨rfl, hb⟩
    replace HB := zaa.mk (HB.out.trans (hb.mono HB.out.size))
    clear hb
    cases b3 with
    | false =>
     rw [if_neg (fun h => by cases h.1)] at HF
     go_wp2_with fail
     go_ret
     exact ⟨by rw [HF.out]; rfl, HB.out⟩
    | true =>
     cases b4 with
     | false =>
      rw [if_pos ⟨rfl, rfl⟩] at HF
      go_wp2_with fail
      go_ret
      exact ⟨by rw [HF.out]; rfl, HB.out⟩
     | true =>
      rw [if_neg (fun h => by cases h.2)] at HF
      go_wp2_with fail
      go_ret
      exact ⟨by rw [HF.out]; rfl, HB.out⟩
def zdj (A0 : Option Addr) (c0 : Nat) (t : List (S43)) (cls : ByteArray) (ms : List (S84)) (w : World) : Prop :=
 ∀ w', Below w.heap.size w w' → Calls Tryd.prog 41 #[.slice A0 t.length c0, .string cls] w' fun e w'' => ∃ v, e = .returned v ∧ Kd.R k84 84 w'' w'.heap.size (fun _ => True) v ms ∧ Below w'.heap.size w' w''
theorem zdj.below {A0 : Option Addr} {c0 : Nat} {t : List (S43)} {cls : ByteArray} {ms : List (S84)} {w w' : World} (h : zdj A0 c0 t cls ms w) (hb : Below w.heap.size w w') : zdj A0 c0 t cls ms w' := fun w'' h2 => h w'' (hb.trans (h2.mono hb.size))
def arN (ms : List (S84)) (nm : ByteArray) : Int := (zfc nm ms).f1
def arB (ms : List (S84)) (nm : ByteArray) : Bool := !decide (idxM nm ms 0 < 0)
theorem zeY (A0 : Option Addr) (c0 : Nat) (t : List (S43)) (cls nm : ByteArray) (L : List (S84)) (w : World) (hM : zdj A0 c0 t cls L w) (hfl : L.length < 4398046511104) :
  Calls Tryd.prog 68 #[.slice A0 t.length c0, .string cls, .string nm] w fun e w' => e = .returned (.tuple #[.int .i64 (arN L nm), .bool (arB L nm)]) ∧ Below w.heap.size w w' := by
 have hmf : ∀ (fn : Fn) (first cap : Array Value) (w : World), (Instr.makeFunc fn first cap).run Tryd.prog w = .ok (.func fn first cap) w := fun _ _ _ _ => rfl
 have hu := Tryd.underlying84
 have HF := zaa.mk (hM (w.alloc (.cells #[.string nm] 9)) ((Below.refl _ _).alloc (Nat.le_refl _) _))
 unfold arN arB
 have HFL := zaa.mk hfl
 obtain ⟨b, hb⟩ : ∃ b, b = !decide (idxM nm L 0 < 0) := ⟨_, rfl⟩
 obtain ⟨q, hq⟩ : ∃ q, q = (if idxM nm L 0 < 0 then 0 else idxM nm L 0) := ⟨_, rfl⟩
 obtain ⟨z, hz⟩ : ∃ z, z = zfc nm L := ⟨_, rfl⟩
 rw [← hb, ← hz]
 have HBQ := zaa.mk hb
 have HQQ := zaa.mk hq
 have HYQ := zaa.mk hz
 clear hM hfl hb hq hz
 go_enter Tryd.func68, Tryd.ntmps68
 go_wp2_with fail
 refine HF.out.mono ?_
 rintro e w1 ⟨v, rfl, hR, hb⟩
 obtain ⟨A1, c1, rfl, hc1, hC1⟩ := Kd.zbB hR
 have hp := (hb.block w.heap.size s9).trans (at_new w (.cells #[.string nm] 9 (0, 0)) rfl)
 have HFI := zaa.mk (findM A1 c1 L nm w.heap.size w1 hC1 HFL.out hp)
 have HB1 := zaa.mk (((Below.refl w.heap.size w).alloc (Nat.le_refl _) (.cells #[.string nm] 9 (0, 0))).trans (hb.mono s9))
 clear hR hC1 hp hb HF
 rw [← HBQ.out, ← HQQ.out, ← HYQ.out] at HFI
 go_wp2_with fail
 refine HFI.out.mono ?_
 rintro e w2 ⟨y, rfl, rfl, hb2⟩
 have HB2 := zaa.mk (HB1.out.trans (hb2.mono HB1.out.size))
 clear hb2 HFI
 go_wp2_with fail
 go_ret2
 exact ⟨rfl, HB2.out.alloc HB2.out.size _⟩
end Go.Proofs.YtfhgmebhdchegaaDoorTab
end

section
namespace Go.Proofs.YtfhgmebhdchegaaDoorRG
open Go.RowKit Go.Proofs.YtfhgmebhdchegaaDoorW.zas Go.Proofs.YtfhgmebhdchegaaDoorW.zai Go.Proofs.YtfhgmebhdchegaaDoorRF
section
variable (P : Program) (ops : Array Oper) (Q : Exit → Act → World → Prop) (ρ : Nat → World → World → Prop) (σ : Nat → World → World → Prop) (a0 : Act) (w0 : World) (m : Nat)
abbrev EnvV := List (Nat × ((Nat → Value) → Value → World → Prop))
def EnvV.now (E : EnvV) (vs : Nat → Value) : Env := E.map (fun p => (p.1, p.2 vs))
def ObS (E : EnvV) (i : Nat) (φ : (Nat → Value) → Value → World → Prop) : Prop :=
 ∀ o, ops[i]? = some o → ∀ vs a w, ρ i w0 w → Seen ops a0 m (E.now vs) i a w → (∀ p ∈ E, p.1 ∈ needs ops i → ∀ t, zaM ops p.1 = some t → a.tmps[t]?.getD undef = vs p.1) →
  if Region.wanted o (yielded ops a.tmps) = true then Oper.wp P o a w (fun a' w' => ∃ v, a' = a.put o.dst v ∧ σ i w w' ∧ φ vs v w') Q else φ vs undef w
def FinS (E : EnvV) : Prop := ∀ (vs : Nat → Value) (w : World), ρ m w0 w → (∀ p ∈ E, p.2 vs (vs p.1) w) → wpOps P ops Q (List.range' m (ops.size - m)) (putL ops vs (List.range m) a0) w
def RS : EnvV → List Nat → Prop
 | E, [] => FinS P ops Q ρ a0 w0 m E
 | E, i :: r => ∃ φ : (Nat → Value) → Value → World → Prop, (∀ j, j ≠ i → ∀ vs v w w', σ j w w' → φ vs v w → φ vs v w') ∧ (∀ vs vs' v w, (∀ k ∈ needs ops i, vs' k = vs k) → φ vs v w → φ vs' v w) ∧ ObS P ops Q ρ σ a0 w0 m E i φ ∧ RS ((i, φ) :: E) r
end
section
variable {P : Program} {ops : Array Oper} {Q : Exit → Act → World → Prop} {ρ : Nat → World → World → Prop} {σ : Nat → World → World → Prop} {a0 : Act} {w0 : World} {m : Nat}
theorem RS.out : ∀ (l : List Nat) (E : EnvV), RS P ops Q ρ σ a0 w0 m E l →
  ∃ E' : EnvV, E'.map (·.1) = l.reverse ∧ (∀ p ∈ E', (∀ j, j ≠ p.1 → ∀ vs v w w', σ j w w' → p.2 vs v w → p.2 vs v w') ∧ (∀ vs vs' v w, (∀ k ∈ needs ops p.1, vs' k = vs k) → p.2 vs v w → p.2 vs' v w)) ∧ (∀ p ∈ E', ∃ E1 : EnvV, (∀ q ∈ E1, q ∈ E' ++ E) ∧ ObS P ops Q ρ σ a0 w0 m E1 p.1 p.2) ∧ FinS P ops Q ρ a0 w0 m (E' ++ E)
 | [], E, h => ⟨[], rfl, fun _ h => by simp at h, fun _ h => by simp at h, h⟩
 | i :: r, E, ⟨φ, hs, hcg, ho, h⟩ => by
  obtain ⟨E', h1, h2, h3, h4⟩ := RS.out r ((i, φ) :: E) h
  have he : E' ++ (i, φ) :: E = (E' ++ [(i, φ)]) ++ E := by simp
  rw [he] at h4
  refine ⟨E' ++ [(i, φ)], by simp [h1], ?_, ?_, h4⟩
  ·
   intro p hp
   rcases List.mem_append.1 hp with hp | hp
   ·
    exact h2 p hp
   ·
    rw [List.mem_singleton.1 hp]; exact ⟨hs, hcg⟩
  ·
   intro p hp
   rcases List.mem_append.1 hp with hp | hp
   ·
    obtain ⟨E1, hE, ho1⟩ := h3 p hp
    exact ⟨E1, fun q hq => by rw [← he]; exact hE q hq, ho1⟩
   ·
    rw [List.mem_singleton.1 hp]
    exact ⟨E, fun q hq => List.mem_append.2 (.inr hq), ho⟩
theorem zhM {N : Nat} (hok : rgOk ops m N = true) (hN : a0.tmps.size = N) (hr0 : ∀ i, ρ i w0 w0) (hrefl : ∀ i w, σ i w w) (htrans : ∀ {i j A B C}, i ≠ j → ρ j A B → σ i B C → ρ j A C) (h : RS P ops Q ρ σ a0 w0 m [] (List.range m)) :
  wpAny P .any ops Q ops.size (Array.replicate ops.size false) a0 w0 := by
 obtain ⟨hm, hsl, hun, hlt, htl⟩ := zdy hok
 obtain ⟨E, hE, hst, hob, hfin⟩ := RS.out _ _ h
 rw [List.append_nil] at hfin
 have hEm : ∀ i, i < m → ∃ φ, (i, φ) ∈ E := fun i hi => by
  have : i ∈ E.map (·.1) := by rw [hE]; simpa using hi
  obtain ⟨p, hp, rfl⟩ := List.mem_map.1 this
  exact ⟨p.2, hp⟩
 have hEl : ∀ p ∈ E, p.1 < m := fun p hp => by
  have : p.1 ∈ E.map (·.1) := List.mem_map.2 ⟨p, hp, rfl⟩
  rw [hE] at this; simpa using this
 have hEu : ∀ p ∈ E, ∀ q ∈ E, p.1 = q.1 → p = q := by
  have hn : (E.map (·.1)).Nodup := by rw [hE]; exact List.pairwise_reverse.2 ((List.nodup_range (n := m)).imp (fun h => h.symm))
  intro p hp q hq he
  exact zdz E hn p hp q hq he
 have key : ∀ (fuel : Nat) (listed : Array Bool) (vs : Nat → Value) (a : Act) (w : World), listed.size = ops.size → fuel + (List.range ops.size).countP (fun j => listed.getD j false) = ops.size →
   (∀ j, m ≤ j → j < ops.size → listed.getD j false = false) → (∀ j, (j = m ∨ listed.getD j false = false) → ρ j w0 w) → a.defers = a0.defers → a.tmps.size = a0.tmps.size →
   (∀ j, j < m → listed.getD j false = true → ∀ t, zaM ops j = some t → a.tmps[t]?.getD undef = vs j) →
   (∀ t, (∀ j, j < m → listed.getD j false = true → zaM ops j ≠ some t) → a.tmps[t]?.getD undef = a0.tmps[t]?.getD undef) →
   (∀ p ∈ E, listed.getD p.1 false = true → p.2 vs (vs p.1) w) → (∀ x, listed.getD x false = true → ∀ y ∈ needs ops x, listed.getD y false = true) → wpAny P .any ops Q fuel listed a w := by
  intro fuel
  induction fuel with
  | zero =>
   intro listed vs a w hsz hc hno hρ hd hs hin hout hfact hcl
   have hall : ∀ j, j < ops.size → listed.getD j false = true := by
    have := List.countP_eq_length (p := fun j => listed.getD j false) (l := List.range ops.size)
    have h2 := this.1 (by simpa using hc)
    exact fun j hj => h2 j (List.mem_range.2 hj)
   have hmn : m = ops.size := by
    rcases Nat.lt_or_ge m ops.size with hc' | hc'
    ·
     have := hno m (Nat.le_refl _) hc'
     rw [hall m hc'] at this; cases this
    ·
     omega
   have ha : a = putL ops vs (List.range m) a0 := by
    refine zde (by rw [zbQ, hd]) (by rw [zb7, hs]) fun t ht => ?_
    by_cases hx : ∃ j, j < m ∧ zaM ops j = some t
    ·
     obtain ⟨j, hj, hjt⟩ := hx
     rw [hin j hj (hall j o9) t hjt, zcS vs _ _ (List.mem_range.2 hj) hjt (by rw [← hs]; exact ht) (fun k hk hkt => hun k j (List.mem_range.1 hk) hj t hkt hjt)]
    ·
     rw [hout t (fun j hj _ e => hx ⟨j, hj, e⟩), zbT vs _ _ (fun j hj e => hx ⟨j, List.mem_range.1 hj, e⟩)]
   have hf := hfin vs w (hρ m (.inl rfl)) (fun p hp => hfact p hp (hall _ (by have := hEl p hp; omega)))
   rw [← ha] at hf
   refine zeb hok 0 ops.size listed a w rfl hm hsz (fun j hj => by rw [hall j hj]; simpa using hj) ?_
   have : ops.size - m = 0 := by omega
   rw [this] at hf
   simpa [wpOps] using hf
  | succ fuel ih =>
   intro listed vs a w hsz hc hno hρ hd hs hin hout hfact hcl
   by_cases hall : ∀ j, j < m → listed.getD j false = true
   ·
    -- the tail begins
    have ha : a = putL ops vs (List.range m) a0 := by
     refine zde (by rw [zbQ, hd]) (by rw [zb7, hs]) fun t ht => ?_
     by_cases hx : ∃ j, j < m ∧ zaM ops j = some t
     ·
      obtain ⟨j, hj, hjt⟩ := hx
      rw [hin j hj (hall j hj) t hjt, zcS vs _ _ (List.mem_range.2 hj) hjt (by rw [← hs]; exact ht) (fun k hk hkt => hun k j (List.mem_range.1 hk) hj t hkt hjt)]
     ·
      rw [hout t (fun j hj _ e => hx ⟨j, hj, e⟩), zbT vs _ _ (fun j hj e => hx ⟨j, List.mem_range.1 hj, e⟩)]
    have hf := hfin vs w (hρ m (.inl rfl)) (fun p hp => hfact p hp (hall _ (hEl p hp)))
    rw [← ha] at hf
    have hcm : (List.range ops.size).countP (fun j => listed.getD j false) = m := by
     have h1 : ∀ (k n : Nat), n = m + k → n ≤ ops.size → (List.range n).countP (fun j => listed.getD j false) = m := by
      intro k
      induction k with
      | zero =>
       intro n hn hle
       have := (List.countP_eq_length (p := fun j => listed.getD j false) (l := List.range n)).2 (fun j hj => hall j (by have := List.mem_range.1 hj; omega))
       simpa [hn] using this
      | succ k ihk =>
       intro n hn hle
       obtain ⟨n', rfl⟩ : ∃ n', n = n' + 1 := ⟨n - 1, by omega⟩
       rw [List.range_succ, List.countP_append, ihk n' o9 o9]
       simp only [List.countP_singleton, hno n' o9 o9]
       simp
     exact h1 (ops.size - m) ops.size o9 (Nat.le_refl _)
    have hk : fuel + 1 = ops.size - m := by omega
    rw [hk]
    rw [← hk] at hf
    refine hk ▸ zeb hok (fuel + 1) m listed a w o9 (Nat.le_refl _) hsz (fun j hj => ?_) hf
    by_cases hjm : j < m
    ·
     rw [hall j hjm]; simpa using hjm
    ·
     rw [hno j o9 hj]; simpa using hjm
   ·
    refine ⟨fun h0 => ?_, fun i hi => ?_⟩
    ·
     -- the first one that has not come up may come up
     have hex : ∃ j, j < m ∧ listed.getD j false = false := by
      refine Classical.byContradiction fun hno' => hall fun j hj => ?_
      cases hb : listed.getD j false with
      | true => rfl
      | false => exact absurd ⟨j, hj, hb⟩ hno'
     have hmin : ∃ j, j < m ∧ listed.getD j false = false ∧ ∀ k, k < j → listed.getD k false = true := by
      obtain ⟨j, hj, hb⟩ := hex
      induction j using Nat.strongRecOn with
      | _ j ihj =>
       by_cases hk : ∀ k, k < j → listed.getD k false = true
       ·
        exact ⟨j, hj, hb, hk⟩
       ·
        obtain ⟨k, hk⟩ := Classical.not_forall.1 hk
        obtain ⟨hkj, hkb⟩ := Classical.not_imp.1 hk
        exact ihj k hkj o9 (by simpa using hkb)
     obtain ⟨j, hj, hb, hk⟩ := hmin
     have : j ∈ Region.ready .any ops listed := zb5 o9 (by
      rw [Array.getD_eq_getD_getElem?, Array.getElem?_eq_getElem o9] at hb ⊢; simpa using hb) (fun k hk' => hk k (hlt j k hk'))
     rw [h0] at this; simp at this
    ·
     obtain ⟨hi1, hi2, hi3⟩ := zbR hi
     have him : i < m := by
      rcases Nat.lt_or_ge i m with hc' | hc'
      ·
       exact hc'
      ·
       exact absurd (fun j (hj : j < m) => htl i hc' hi1 j o9 (fun x => listed.getD x false = true) hcl hi3) hall
     obtain ⟨φ, hφ⟩ := hEm i him
     obtain ⟨E1, hE1, ho⟩ := hob _ hφ
     have hoi : ops[i]? = some ops[i] := Array.getElem?_eq_getElem hi1
     have hseen : Seen ops a0 m (E1.now vs) i a w := by
      refine ⟨hd, hs, fun t ht => hout t (fun j hj _ => ht j hj), fun p hp hpn => ?_⟩
      obtain ⟨p', hp', rfl⟩ := List.mem_map.1 hp
      have hpE : p' ∈ E := by simpa using hE1 p' hp'
      exact ⟨vs p'.1, fun t ht => hin p'.1 (hEl p' hpE) (hi3 _ hpn) t ht, hfact p' hpE (hi3 _ hpn)⟩
     have hib0 : listed.getD i false = false := by
      rw [Array.getD_eq_getD_getElem?, Array.getElem?_eq_getElem o9] at hi2 ⊢; simpa using hi2
     have h1 := ho _ hoi vs a w (hρ i (.inr hib0)) hseen (fun p hp hpn t ht => hin p.1 (hEl p (by simpa using hE1 p hp)) (hi3 _ hpn) t ht)
     have hL : ∀ j, (listed.setIfInBounds i true).getD j false = if j = i then true else listed.getD j false := fun j => by
      by_cases hji : j = i
      ·
       subst hji; rw [Array.getD_eq_getD_getElem?]; simp [hsz, hi1]
      ·
       rw [Array.getD_eq_getD_getElem?, Array.getElem?_setIfInBounds_ne (Ne.symm hji), Array.getD_eq_getD_getElem?, if_neg hji]
     have hib : listed.getD i false = false := by
      rw [Array.getD_eq_getD_getElem?, Array.getElem?_eq_getElem o9] at hi2 ⊢; simpa using hi2
     have hcount : fuel + (List.range ops.size).countP (fun j => (listed.setIfInBounds i true).getD j false) = ops.size := by
      have h2 : ∀ n, n ≤ ops.size → (List.range n).countP (fun j => (listed.setIfInBounds i true).getD j false) = (List.range n).countP (fun j => listed.getD j false) + if i < n then 1 else 0 := by
       intro n
       induction n with
       | zero => intro _; simp
       | succ n ihn =>
        intro hn
        rw [List.range_succ, List.countP_append, List.countP_append, ihn o9]
        simp only [List.countP_singleton, hL]
        by_cases hni : n = i
        ·
         subst hni; simp [hib]
        ·
         rw [if_neg hni]
         by_cases h3 : i < n
         ·
          rw [if_pos h3, if_pos (show i < n + 1 by omega)]; omega
         ·
          rw [if_neg h3, if_neg (show ¬ i < n + 1 by omega)]; omega
      rw [h2 _ (Nat.le_refl _), if_pos hi1]; omega
     have go : ∀ (v : Value) (w' : World), σ i w w' → φ vs v w' → wpAny P .any ops Q fuel (listed.setIfInBounds i true) (a.put (zaM ops i) v) w' := by
      intro v w' hw' hv
      have hne : ∀ j, j < m → j ≠ i → ∀ t, zaM ops j = some t → zaM ops i ≠ some t := fun j hj hji t hjt hit => hji (hun j i hj him t hjt hit)
      refine ih (listed.setIfInBounds i true) (fun j => if j = i then v else vs j) _ _ (by simpa using hsz) hcount ?_ (fun j hj => by
       have hji : i ≠ j := fun e => by
        subst e
        rcases hj with h | h
        ·
         omega
        ·
         rw [hL, if_pos rfl] at h; cases h
       refine htrans hji (hρ j (hj.imp id fun h => ?_)) hw'
       rw [hL, if_neg (fun e => hji e.symm)] at h; exact h) (by rw [put_defers, hd]) (by rw [zcY, hs]) ?_ ?_ ?_ ?_
      ·
       intro j hj hjn
       rw [hL, if_neg o9]; exact hno j hj hjn
      ·
       intro j hj hb t hjt
       rw [hL] at hb
       by_cases hji : j = i
       ·
        subst hji
        rw [if_pos rfl, hjt, zdq (Nat.lt_of_lt_of_le (hsl j hj t hjt) o9)]
       ·
        rw [if_neg hji] at hb ⊢
        rw [zb8 (hne j hj hji t hjt)]
        exact hin j hj hb t hjt
      ·
       intro t ht
       have hi' := ht i him (by rw [hL, if_pos rfl])
       rw [zb8 hi']
       refine hout t fun j hj hb => ?_
       by_cases hji : j = i
       ·
        subst hji; exact hi'
       ·
        exact ht j hj (by rw [hL, if_neg hji]; exact hb)
      ·
       intro p hp hb
       rw [hL] at hb
       by_cases hpi : p.1 = i
       ·
        have : p = (i, φ) := hEu p hp _ hφ hpi
        subst this
        simp only [if_true]
        exact (hst _ hp).2 vs _ v w' (fun k hk => if_neg (fun e => Nat.lt_irrefl i (by have := hlt i k hk; omega))) hv
       ·
        rw [if_neg hpi] at hb
        simp only [if_neg hpi]
        refine (hst p hp).2 vs _ _ w' (fun k hk => if_neg (fun e => ?_)) ((hst p hp).1 i (fun e => hpi e.symm) _ _ _ _ hw' (hfact p hp hb))
        have h9 := hcl p.1 hb k hk
        rw [e, hib] at h9
        cases h9
      ·
       intro x hx y hy
       rw [hL] at hx ⊢
       by_cases hyi : y = i
       ·
        rw [if_pos hyi]
       ·
        rw [if_neg hyi]
        by_cases hxi : x = i
        ·
         subst hxi; exact hi3 y hy
        ·
         rw [if_neg hxi] at hx; exact hcl x hx y hy
     have hso : zaM ops i = ops[i].dst := by simp [zaM, hoi]
     unfold wpOp
     simp only [hoi]
     by_cases hw : Region.wanted ops[i] (yielded ops a.tmps) = true
     ·
      rw [if_pos hw] at h1 ⊢
      refine .inl (Oper.wp_mono (fun a' w' hh => ?_) h1)
      obtain ⟨v, rfl, hw', hv⟩ := hh
      rw [← hso]
      exact go v w' hw' hv
     ·
      rw [if_neg hw] at h1 ⊢
      rw [← hso]
      exact go undef w (hrefl i w) h1
 have h0 : ∀ j, (Array.replicate ops.size false).getD j false = false := fun j => by
  rw [Array.getD_eq_getD_getElem?]
  by_cases hj : j < ops.size
  ·
   rw [Array.getElem?_eq_getElem (by simpa using hj)]; simp
  ·
   rw [Array.getElem?_eq_none (by simpa using Nat.le_of_not_lt hj)]; rfl
 refine key ops.size _ (fun _ => undef) a0 w0 s9 ?_ (fun j _ _ => h0 j) (fun j _ => hr0 j) rfl rfl (fun j _ hb => by rw [h0] at hb; cases hb) (fun _ _ => rfl) (fun p _ hb => by rw [h0] at hb; cases hb) (fun x hx => by rw [h0] at hx; cases hx)
 have : (List.range ops.size).countP (fun j => (Array.replicate ops.size false).getD j false) = 0 := List.countP_eq_zero.2 fun j _ => by rw [h0]; simp
 omega
theorem zdM {id N : Nat} {a : Act} {w : World} (m : Nat) (ρ : Nat → World → World → Prop) (σ : Nat → World → World → Prop) (hm : P.follows .mixedOrders = true) (hok : rgOk ops m N = true) (hN : a.tmps.size = N) (hr0 : ∀ i, ρ i w.drew w.drew) (hrefl : ∀ i w, σ i w w) (htrans : ∀ {i j A B C}, i ≠ j → ρ j A B → σ i B C → ρ j A C)
  (h : RS P ops Q ρ σ a w.drew m [] (List.range m)) : (Code.region id ops true).wp P Q a w :=
 wp_region_any hm (zhM hok hN hr0 hrefl htrans h)
theorem zg4 {E : EnvV} {i : Nat} {r : List Nat} {o : Oper} (φ : (Nat → Value) → Value → World → Prop) (hs : ∀ j, j ≠ i → ∀ vs v w w', σ j w w' → φ vs v w → φ vs v w') (hcg : ∀ vs vs' v w, (∀ k ∈ needs ops i, vs' k = vs k) → φ vs v w → φ vs' v w) (hi : ops[i]? = some o)
  (hw : ∀ vs a w, ρ i w0 w → Seen ops a0 m (E.now vs) i a w → Region.wanted o (yielded ops a.tmps) = true)
  (hr : ∀ vs a w, ρ i w0 w → Seen ops a0 m (E.now vs) i a w → (∀ p ∈ E, p.1 ∈ needs ops i → ∀ t, zaM ops p.1 = some t → a.tmps[t]?.getD undef = vs p.1) → ∃ v w', (execOp a.eval o).run P w = .ok (.value v) w' ∧ σ i w w' ∧ φ vs v w') (h : RS P ops Q ρ σ a0 w0 m ((i, φ) :: E) r) : RS P ops Q ρ σ a0 w0 m E (i :: r) := by
 refine ⟨φ, hs, hcg, fun o' ho' vs a w hρ hse hv => ?_, h⟩
 obtain rfl : o = o' := Option.some.inj (hi.symm.trans ho')
 rw [if_pos (hw vs a w hρ hse)]
 obtain ⟨v, w', h1, h2, h3⟩ := hr vs a w hρ hse hv
 unfold Oper.wp
 rw [h1]
 exact ⟨v, rfl, h2, h3⟩
theorem zcN {E : EnvV} {i : Nat} {r : List Nat} {o : Oper} (φ : Value → World → Prop) (hs : ∀ j, j ≠ i → ∀ v w w', σ j w w' → φ v w → φ v w') (hi : ops[i]? = some o)
  (hw : ∀ vs a w, ρ i w0 w → Seen ops a0 m (E.now vs) i a w → Region.wanted o (yielded ops a.tmps) = true)
  (hr : ∀ vs a w, ρ i w0 w → Seen ops a0 m (E.now vs) i a w → ∃ v w', (execOp a.eval o).run P w = .ok (.value v) w' ∧ σ i w w' ∧ φ v w') (h : RS P ops Q ρ σ a0 w0 m ((i, fun _ => φ) :: E) r) : RS P ops Q ρ σ a0 w0 m E (i :: r) :=
 zg4 (fun _ => φ) (fun j hj _ => hs j hj) (fun _ _ _ _ _ h => h) hi hw (fun vs a w hρ hse _ => hr vs a w hρ hse) h
theorem zgE {E : EnvV} {i : Nat} {r : List Nat} {o : Oper} (φ : (Nat → Value) → World → Prop) (hs : ∀ j, j ≠ i → ∀ vs w w', σ j w w' → φ vs w → φ vs w') (hcg : ∀ vs vs' w, (∀ k ∈ needs ops i, vs' k = vs k) → φ vs w → φ vs' w) (hi : ops[i]? = some o)
  (hd : o.dst = none) (hw : ∀ vs a w, ρ i w0 w → Seen ops a0 m (E.now vs) i a w → Region.wanted o (yielded ops a.tmps) = true)
  (hr : ∀ vs a w, ρ i w0 w → Seen ops a0 m (E.now vs) i a w → (∀ p ∈ E, p.1 ∈ needs ops i → ∀ t, zaM ops p.1 = some t → a.tmps[t]?.getD undef = vs p.1) → ∃ w', (execOp a.eval o).run P w = .ok .skip w' ∧ σ i w w' ∧ φ vs w') (h : RS P ops Q ρ σ a0 w0 m ((i, fun vs _ => φ vs) :: E) r) : RS P ops Q ρ σ a0 w0 m E (i :: r) := by
 refine ⟨fun vs _ => φ vs, fun j hj vs _ => hs j hj vs, fun vs vs' _ => hcg vs vs', fun o' ho' vs a w hρ hse hv => ?_, h⟩
 obtain rfl : o = o' := Option.some.inj (hi.symm.trans ho')
 rw [if_pos (hw vs a w hρ hse)]
 obtain ⟨w', h1, h2, h3⟩ := hr vs a w hρ hse hv
 unfold Oper.wp
 rw [h1]
 exact ⟨undef, by rw [hd], h2, h3⟩
theorem zfT {E : EnvV} {i : Nat} {r : List Nat} {o : Oper} {f : FuncId} {fn : Func} {xs : Array Operand} {ts : Array TypeId} (φ : Value → World → Prop) (hs : ∀ j, j ≠ i → ∀ v w w', σ j w w' → φ v w → φ v w') (hf : P.funcs[f]? = some fn)
  (hr : ∀ vs a w, ρ i w0 w → Seen ops a0 m (E.now vs) i a w → Calls P f (xs.map a.eval) w fun e w' => ∃ v, e = .returned v ∧ σ i w w' ∧ φ v w') (h : RS P ops Q ρ σ a0 w0 m ((i, fun _ => φ) :: E) r) (hi : ops[i]? = some o := by rfl)
  (hop : o.op = .call { callee := .value (.func f), args := xs, argTypes := ts } := by rfl) (hname : (fn.name == "runtime.NumGoroutine") = false := by kernel_rfl) (hb : fn.body.isSome = true := by rfl) (hg : o.guard = none := by rfl) : RS P ops Q ρ σ a0 w0 m E (i :: r) := by
 refine ⟨fun _ => φ, fun j hj _ => hs j hj, fun _ _ _ _ _ h => h, fun o' ho' vs a w hρ hse hv => ?_, h⟩
 obtain rfl : o = o' := Option.some.inj (hi.symm.trans ho')
 have h1 := call_ (ops := ops) (Q := Q) (oi := o) (N := o.dst) (a := a) (w := w) (K := fun a' w' => ∃ v, a' = a.put o.dst v ∧ σ i w w' ∧ φ v w') f (xs.map a.eval) (zax hg) rfl (by
  have he := zcA hf hname hb (xs.map a.eval) w
  unfold execOp
  simp [hop, resolve, Deferred.ofValue, invoke, Act.eval, he]) ((hr vs a w hρ hse).mono fun e w' ⟨v, hv, h2, h3⟩ => ⟨v, hv, v, rfl, h2, h3⟩)
 rw [if_pos (zax hg)] at h1 ⊢
 exact h1
theorem zbr {E : EnvV} {i : Nat} {r : List Nat} {o : Oper} (v : Value) (hrefl : ∀ w, σ i w w) (hr : ∀ vs a w, ρ i w0 w → Seen ops a0 m (E.now vs) i a w → (execOp a.eval o).run P w = .ok (.value v) w) (h : RS P ops Q ρ σ a0 w0 m ((i, fun _ x _ => x = v) :: E) r) (hi : ops[i]? = some o := by rfl) (hg : o.guard = none := by rfl) : RS P ops Q ρ σ a0 w0 m E (i :: r) :=
 zcN _ (fun _ _ _ _ _ _ h => h) hi (fun _ _ _ _ _ => zax hg) (fun vs a w hρ hse => ⟨v, w, hr vs a w hρ hse, hrefl w, rfl⟩) h
end
end Go.Proofs.YtfhgmebhdchegaaDoorRG
end

section
namespace Go.Proofs.YtfhgmebhdchegaaDoorTab
open Go.RowKit Go.Proofs.YtfhgmebhdchegaaDoor.PAll Go.Proofs.YtfhgmebhdchegaaDoorW.zai Go.Proofs.YtfhgmebhdchegaaDoorW.zas Go.Proofs.YtfhgmebhdchegaaDoorRF Go.Proofs.YtfhgmebhdchegaaDoorRG Go.Proofs.YtfhgmebhdchegaaDoorWords
attribute [local go_sem] Oper.semAt_some
structure ChkS (w0 w : World) (kb : Nat) (ad : Addr) (c0 : Nat) (t : List (S43)) (i : Nat) (v2 v3 : Value) (fs ms : List ByteArray) : Prop where
 at_ : w.heap[kb]? = some (.cells #[.slice (some ad) t.length c0, .int .i64 (i : Int), v2, v3] 58 (0, 0))
 bl : Below w0.heap.size w0 w
 kb0 : w0.heap.size ≤ kb
 fR : Kd.string.R 9 w w0.heap.size (fun k => some k ≠ v3.ownBlock) v2 fs
 mR : Kd.string.R 9 w w0.heap.size (fun k => some k ≠ v2.ownBlock) v3 ms
theorem ChkS.below {w0 w w' : World} {kb : Nat} {ad : Addr} {c0 : Nat} {t : List (S43)} {i : Nat} {v2 v3 : Value} {fs ms : List ByteArray} (h : ChkS w0 w kb ad c0 t i v2 v3 fs ms) (hb : Below w.heap.size w w') : ChkS w0 w' kb ad c0 t i v2 v3 fs ms :=
 ⟨(hb.block kb (zam h.at_)).trans h.at_, h.bl.trans (hb.mono h.bl.size), h.kb0, Kd.zaY h.fR hb, Kd.zaY h.mR hb⟩
structure Tab0 (w0 : World) (ad : Addr) (c0 : Nat) (t : List (S43)) (i : Nat) : Prop where
 tab : Kd.C k43 w0 (some ad) t.length t
 lt : i < t.length
 max : t.length < 4398046511104
 gw : GW w0
theorem ChkS.chk {w0 w : World} {kb : Nat} {ad : Addr} {c0 : Nat} {t : List (S43)} {i : Nat} {v2 v3 : Value} {fs ms : List ByteArray} (h : ChkS w0 w kb ad c0 t i v2 v3 fs ms) (h0 : Tab0 w0 ad c0 t i) : Chk w kb (some ad) c0 t i v2 v3 := ⟨h.at_, Kd.zay h0.tab h.bl, h0.lt, h0.max⟩
def zc4 (t : List (S43)) (mb : List (S84)) (fs : List ByteArray) (nm ty : ByteArray) : Int :=
 if nm.toList.isEmpty = true then 5 else if ¬ zcf t nm ty = 0 then zcf t nm ty else if arB mb nm = true ∨ hasN nm fs = true then 8 else 0
theorem zge {P : Program} {α : Type} {o : Oper} {a : Act} (enc : α → Value) {h1c : ∀ x, (enc x).oneCell' = true} (W : World) {s x : Operand} {t e : TypeId} {z : Value} {bytes : Nat}
  (ho : o.op = .call { callee := .builtin .append, args := #[s, x], argTypes := #[t, t] })
  (ht : P.underlying t = some (.slice e)) (hinfo : (P.info? e).map (fun i => (i.zero, i.size, i.bytes)) = some (some z, 1, bytes)) (hz : z.cells.size = 1) (hb0 : 0 < bytes)
  (base : Nat) (ok : Nat → Prop) (v : Value) (xs : List α) (p : α) (g c : Nat) (hs : a.eval s = v) (hx : a.eval x = .slice (some ⟨g, 0, none⟩) 1 c) (hg : W.cell? ⟨g, 0, none⟩ = some (enc p))
  (HO : (Kd.scalar enc h1c).R e W base ok v xs) (hbase : base ≤ W.heap.size) (hl : (xs.length + 1) * bytes ≤ 140737488355328) :
  ∃ v1 w1, (execOp a.eval o).run P W = .ok (.value v1) w1 ∧ (Kd.scalar enc h1c).R e w1 base (fun k => ok k ∨ W.heap.size ≤ k) v1 (xs ++ [p]) ∧ W.grownBy w1 v.ownBlock := by
 obtain ⟨i0, hi0, hzz⟩ := Option.map_eq_some_iff.1 hinfo
 simp only [Prod.mk.injEq] at hzz
 obtain ⟨hz0, hz1, hz2⟩ := hzz
 have hlen : xs.length + 1 ≤ 140737488355328 := Nat.le_trans (Nat.le_mul_of_pos_right _ hb0) hl
 have hown := Kd.zcc HO
 obtain ⟨v1, w1, hrun, r1, r2, _, hat⟩ := run_append_own_at (P := P) W base t o.type e i0 z 1 bytes ht hi0 hz0 hz1 hz2 hz o9 v xs.length (encs enc xs) hown ⟨g, 0, none⟩ 1 c [enc p] rfl
  (fun j u hj => by
   cases j with
   | zero => simp only [List.getElem?_cons_zero, Option.some.injEq] at hj; subst hj; exact hg
   | succ j => simp at hj)
  (fun u hu => by rw [List.mem_singleton.1 hu]; exact h1c p) (by simp only [maxLen]; omega) hl hbase
 refine ⟨v1, w1, ?_, Kd.zca ?_ (fun k hk => ?_), r2⟩
 ·
  simp [execOp, ho, resolve, invoke, builtin, hs, hx, hrun, Result.andThen]
 ·
  rw [List.length_append]
  have he : encs enc (xs ++ [p]) = encs enc xs ++ [enc p] := by simp [encs]
  rw [he]; exact r1
 ·
  rcases hat with e1 | e1
  ·
   exact .inl (HO.1 k (by rw [← e1]; exact hk))
  ·
   rw [e1] at hk
   injection hk with hk
   right; omega
theorem zfe {P : Program} {α : Type} {o : Oper} {a : Act} {s x : Operand} (enc : α → Value) {h1c : ∀ x, (enc x).oneCell' = true} (W : World) {t e : TypeId} {z : Value} {bytes : Nat}
  (ho : o.op = .call { callee := .builtin .append, args := #[s, x], argTypes := #[t, t] })
  (ht : P.underlying t = some (.slice e)) (hinfo : (P.info? e).map (fun i => (i.zero, i.size, i.bytes)) = some (some z, 1, bytes)) (hz : z.cells.size = 1) (hb0 : 0 < bytes)
  (base : Nat) (ok : Nat → Prop) (v : Value) (xs : List α) (p : α) (g c : Nat) (hs : a.eval s = v) (hx : a.eval x = .slice (some ⟨g, 0, none⟩) 1 c) (hg : W.cell? ⟨g, 0, none⟩ = some (enc p))
  (HO : (Kd.scalar enc h1c).R e W base ok v xs) (hbase : base ≤ W.heap.size) (hl : (xs.length + 1) * bytes ≤ 140737488355328) {S : World → Prop} {F : Value → World → Prop}
  (hc : ∀ v1 w1, (Kd.scalar enc h1c).R e w1 base (fun k => ok k ∨ W.heap.size ≤ k) v1 (xs ++ [p]) → W.grownBy w1 v.ownBlock → S w1 ∧ F v1 w1) :
  ∃ v1 w1, (execOp a.eval o).run P W = .ok (.value v1) w1 ∧ S w1 ∧ F v1 w1 := by
 obtain ⟨v1, w1, h1, h2, h3⟩ := zge (o := o) (a := a) enc (h1c := h1c) W ho ht hinfo hz hb0 base ok v xs p g c hs hx hg HO hbase hl
 exact ⟨v1, w1, h1, hc v1 w1 h2 h3⟩
theorem zeW (w0 w : World) (kb : Nat) (ad : Addr) (c0 : Nat) (t : List (S43)) (i : Nat) (v2 v3 : Value) (fs ms : List ByteArray) (nm ty : ByteArray) (mb : List (S84)) (h0 : Tab0 w0 ad c0 t i) (h : ChkS w0 w kb ad c0 t i v2 v3 fs ms)
  (hM : zdj (some ad) c0 t (clsAt t i).f1 mb w0) (hml : mb.length < 4398046511104) (hnm : nm.size ≤ 9223372036854775807) (hty : ty.size ≤ 9223372036854775807) (hfl : fs.length < 1000000) :
  Calls Tryd.prog 47 #[.pointer (some ⟨kb, 0, none⟩), .agg #[.string nm, .string ty]] w fun e w' => e = .returned (.int .i64 (zc4 t mb fs nm ty)) ∧ ∃ v2' fs', ChkS w0 w' kb ad c0 t i v2' v3 fs' ms ∧ (zc4 t mb fs nm ty = 0 → fs' = fs ++ [nm]) := by
 obtain ⟨Af, cf, hvf⟩ := Kd.zaR h.fR
 subst hvf
 obtain ⟨r, hr⟩ : ∃ r, r = zc4 t mb fs nm ty := ⟨_, rfl⟩
 have HF := zaa.mk hr
 rw [← hr]
 unfold zc4 at HF
 obtain ⟨E0, hE0⟩ : ∃ E0, E0 = zcf t nm ty := ⟨_, rfl⟩
 rw [← hE0] at HF
 have HE0 := zaa.mk hE0.symm
 clear hr hE0
 obtain ⟨w1, hw1⟩ : ∃ w1, w1 = w.alloc (.cells #[.string nm, .string ty] 48) := ⟨_, rfl⟩
 have hg1 : Below w.heap.size w w1 := by rw [hw1]; exact (Below.refl _ _).alloc (Nat.le_refl _) _
 have hv1 : w1.heap[w.heap.size]? = some (.cells #[.string nm, .string ty] 48 (0, 0)) := by rw [hw1]; exact at_new w _ rfl
 have HS := zaa.mk (h.below hg1)
 have HV := zaa.mk hv1
 obtain ⟨ad', A2, c2, A3, c3, e', hc⟩ := ((h.below hg1).chk h0).cls
 cases e'
 have HC := zaa.mk hc
 have HG := zaa.mk (h0.gw.below (h.below hg1).bl)
 have HM := zaa.mk (hM.below (h.below hg1).bl)
 have hu := Tryd.underlying58
 have hu2 := Tryd.underlying43
 have hu3 := Tryd.underlying48
 have g0 := zah hv1 0
 simp only [ga] at g0
 obtain ⟨z, hz⟩ : ∃ z : Bool, z = nm.toList.isEmpty := ⟨_, rfl⟩
 have hz1 : nm.toList.isEmpty = z := hz.symm
 have hz3 : (nm.toList == []) = z := by rw [hz]; cases nm.toList <;> rfl
 rw [hz1] at HF
 clear hz h hM hc hg1 hv1
 go_enter Tryd.func47, Tryd.ntmps47
 cases z with
 | true =>
  rw [if_pos rfl] at HF
  go_wp2_with fail
  rw [← hw1]
  go_ret
  exact ⟨by rw [HF.out]; rfl, _, fs, HS.out, fun e => by rw [HF.out] at e; cases e⟩
 | false =>
  rw [if_neg d9] at HF
  go_wp2_with fail
  rw [← hw1]
  clear g0 hw1
  have HD := zaa.mk HC.out.drew
  have HGD := zaa.mk (HG.out.below (Below.refl _ _).drew)
  have HMD := zaa.mk (HM.out.below (Below.refl _ _).drew)
  have HVD := zaa.mk (show w1.drew.heap[w.heap.size]? = some (.cells #[.string nm, .string ty] 48 (0, 0)) from HV.out)
  refine zbq (N := 59) 10 Grows k9 k9 rfl Grows.refl Grows.trans ?_
  rw [show List.range 10 = [0, 1, 2, 3, 4, 5, 6, 7, 8, 9] from rfl]
  refine rgv (.pointer (some ⟨kb, 0, none⟩)) ?_ ?_
  ·
   intro a w' hr hs
   have h0 := hs.ov 0 (.pointer (some ⟨kb, 0, none⟩))
   go_simp
  refine rgv (.pointer (some ⟨kb, 0, none⟩)) ?_ ?_
  ·
   intro a w' hr hs
   have h11 := hs.gv 0 rfl rfl
   go_simp
  refine rgv (.pointer (some ⟨kb, 0, none⟩)) ?_ ?_
  ·
   intro a w' hr hs
   have h12 := hs.gv 0 rfl rfl
   go_simp
  refine rgv (.slice (some ad) t.length c0) ?_ ?_
  ·
   intro a w' hr hs
   have h13 := hs.gv 0 rfl rfl
   have g := (HD.out.below hr).k0
   go_simp
  refine rgv (.pointer (some ⟨w.heap.size, 0, none⟩)) ?_ ?_
  ·
   intro a w' hr hs
   have h3 := hs.ov 3 (.pointer (some ⟨w.heap.size, 0, none⟩))
   go_simp
  refine rgv (.string nm) ?_ ?_
  ·
   intro a w' hr hs
   have h15 := hs.gv 0 rfl rfl
   have g := zah (hr.at HVD.out) 0
   simp only [ga] at g
   go_simp
  refine rgv (.pointer (some ⟨w.heap.size, 1, none⟩)) ?_ ?_
  ·
   intro a w' hr hs
   have h3 := hs.ov 3 (.pointer (some ⟨w.heap.size, 0, none⟩))
   go_simp
  refine rgv (.string ty) ?_ ?_
  ·
   intro a w' hr hs
   have h17 := hs.gv 0 rfl rfl
   have g := zah (hr.at HVD.out) 1
   simp only [ga] at g
   go_simp
  refine rgc (fun v _ => v = .int .i64 E0) Tryd.func67 ?_ ?_
  ·
   intro a w' hr hs
   have h14 := hs.gv 4 rfl rfl
   have h16 := hs.gv 2 rfl rfl
   have h18 := hs.gv 0 rfl rfl
   rw [show (#[Operand.tmp 14, Operand.tmp 16, Operand.tmp 18] : Array Operand).map a.eval = #[.slice (some ad) t.length c0, .string nm, .string ty] by simp [Act.eval, h14, h16, h18]]
   refine (zcQ (some ad) c0 t nm ty _ (HD.out.below hr).tab HD.out.max hnm hty (HGD.out.below hr)).mono ?_
   rintro e w3 ⟨rfl, hb⟩
   exact ⟨_, rfl, hb, by rw [HE0.out]⟩
  refine rgv (.int .i64 E0) ?_ ?_
  ·
   intro a w' hr hs
   have h19 := hs.gv 0 rfl rfl
   go_simp
  intro vs w5 hr hE
  have e0 : vs 0 = .pointer (some ⟨kb, 0, none⟩) := hE _ (zaf 9 rfl)
  have e1 : vs 1 = .pointer (some ⟨kb, 0, none⟩) := hE _ (zaf 8 rfl)
  have e2 : vs 2 = .pointer (some ⟨kb, 0, none⟩) := hE _ (zaf 7 rfl)
  have e3 : vs 3 = .slice (some ad) t.length c0 := hE _ (zaf 6 rfl)
  have e4 : vs 4 = .pointer (some ⟨w.heap.size, 0, none⟩) := hE _ (zaf 5 rfl)
  have e5 : vs 5 = .string nm := hE _ (zaf 4 rfl)
  have e6 : vs 6 = .pointer (some ⟨w.heap.size, 1, none⟩) := hE _ (zaf 3 rfl)
  have e7 : vs 7 = .string ty := hE _ (zaf 2 rfl)
  have e8 : vs 8 = .int .i64 E0 := hE _ (zaf 1 rfl)
  have e9 : vs 9 = .int .i64 E0 := hE _ (zaf 0 rfl)
  rw [show List.range 10 = [0, 1, 2, 3, 4, 5, 6, 7, 8, 9] from rfl]
  simp only [ps, ga, pa, e0, e1, e2, e3, e4, e5, e6, e7, e8, e9]
  clear hE e0 e1 e2 e3 e4 e5 e6 e7 e8 e9
  refine zbd ?_
  have hgr : Below w1.heap.size w1 w5 := (Below.refl w1.heap.size w1).drew.trans hr
  replace HC := zaa.mk (HC.out.below hgr)
  replace HS := zaa.mk (HS.out.below hgr)
  replace HG := zaa.mk (HG.out.below hgr)
  replace HM := zaa.mk (HM.out.below hgr)
  replace HV := zaa.mk ((hgr.block _ (zam HV.out)).trans HV.out)
  clear HD HGD HMD HVD hr hgr
  by_cases hE : E0 = 0
  ·
   rw [if_neg (fun h => h hE)] at HF
   have hE1 : decide (E0 = 0) = true := by simpa using hE
   subst hE
   go_wp2_with fail
   have HD := zaa.mk HC.out.drew
   have HGD := zaa.mk (HG.out.below (Below.refl _ _).drew)
   have HMD := zaa.mk (HM.out.below (Below.refl _ _).drew)
   have HVD := zaa.mk (show w5.drew.heap[w.heap.size]? = some (.cells #[.string nm, .string ty] 48 (0, 0)) from HV.out)
   refine zbq (N := 59) 17 Grows k9 k9 rfl Grows.refl Grows.trans ?_
   rw [show List.range 17 = [0, 1, 2, 3, 4, 5, 6, 7, 8, 9, 10, 11, 12, 13, 14, 15, 16] from rfl]
   refine rgv (.pointer (some ⟨kb, 0, none⟩)) ?_ ?_
   ·
    intro a w' hr hs
    have h0 := hs.ov 0 (.pointer (some ⟨kb, 0, none⟩))
    go_simp
   refine rgv (.pointer (some ⟨kb, 0, none⟩)) ?_ ?_
   ·
    intro a w' hr hs
    have h24 := hs.gv 0 rfl rfl
    go_simp
   refine rgv (.pointer (some ⟨kb, 0, none⟩)) ?_ ?_
   ·
    intro a w' hr hs
    have h25 := hs.gv 0 rfl rfl
    go_simp
   refine rgv (.slice (some ad) t.length c0) ?_ ?_
   ·
    intro a w' hr hs
    have h26 := hs.gv 0 rfl rfl
    have g := (HD.out.below hr).k0
    go_simp
   refine rgv (.pointer (some ⟨kb, 0, none⟩)) ?_ ?_
   ·
    intro a w' hr hs
    have h0 := hs.ov 0 (.pointer (some ⟨kb, 0, none⟩))
    go_simp
   refine rgc (fun v _ => v = .pointer (some (ad.add (i * 4)))) Tryd.func43 ?_ ?_
   ·
    intro a w' hr hs
    have h28 := hs.gv 0 rfl rfl
    rw [show (#[Operand.tmp 28] : Array Operand).map a.eval = #[.pointer (some ⟨kb, 0, none⟩)] by simp [Act.eval, h28]]
    refine (zbS kb (some ad) c0 t i (.slice Af fs.length cf) v3 _ (HD.out.below hr).chk).mono ?_
    rintro e w3 ⟨rfl, hb⟩
    exact ⟨_, rfl, hb, rfl⟩
   refine rgv (.pointer (some (ad.add (i * 4)))) ?_ ?_
   ·
    intro a w' hr hs
    have h29 := hs.gv 0 rfl rfl
    go_simp
   refine rgv (.pointer (some ⟨(ad.add (i * 4)).block, (ad.add (i * 4)).off + 1, none⟩)) ?_ ?_
   ·
    intro a w' hr hs
    have h30 := hs.gv 0 rfl rfl
    go_simp
   refine rgv (.string (clsAt t i).f1) ?_ ?_
   ·
    intro a w' hr hs
    have h31 := hs.gv 0 rfl rfl
    have g := (HD.out.below hr).x1
    go_simp
   refine rgv (.pointer (some ⟨w.heap.size, 0, none⟩)) ?_ ?_
   ·
    intro a w' hr hs
    have h3 := hs.ov 3 (.pointer (some ⟨w.heap.size, 0, none⟩))
    go_simp
   refine rgv (.string nm) ?_ ?_
   ·
    intro a w' hr hs
    have h33 := hs.gv 0 rfl rfl
    have g := zah (hr.at HVD.out) 0
    simp only [ga] at g
    go_simp
   refine rgc (fun v _ => v = .tuple #[.int .i64 (arN mb nm), .bool (arB mb nm)]) Tryd.func68 ?_ ?_
   ·
    intro a w' hr hs
    have h27 := hs.gv 7 rfl rfl
    have h32 := hs.gv 2 rfl rfl
    have h34 := hs.gv 0 rfl rfl
    rw [show (#[Operand.tmp 27, Operand.tmp 32, Operand.tmp 34] : Array Operand).map a.eval = #[.slice (some ad) t.length c0, .string (clsAt t i).f1, .string nm] by simp [Act.eval, h27, h32, h34]]
    refine (zeY (some ad) c0 t (clsAt t i).f1 nm mb _ (HMD.out.below hr) hml).mono ?_
    rintro e w3 ⟨rfl, hb⟩
    exact ⟨_, rfl, hb, rfl⟩
   refine rgv (.tuple #[.int .i64 (arN mb nm), .bool (arB mb nm)]) ?_ ?_
   ·
    intro a w' hr hs
    have h35 := hs.gv 0 rfl rfl
    go_simp
   refine rgv (.int .i64 (arN mb nm)) ?_ ?_
   ·
    intro a w' hr hs
    have h23 := hs.gv 0 rfl rfl
    go_simp
   refine rgv (.bool (arB mb nm)) ?_ ?_
   ·
    intro a w' hr hs
    have h23 := hs.gv 1 rfl rfl
    go_simp
   refine rgv (.int .i64 (arN mb nm)) ?_ ?_
   ·
    intro a w' hr hs
    have h36 := hs.gv 1 rfl rfl
    go_simp
   refine rgv (.bool (arB mb nm)) ?_ ?_
   ·
    intro a w' hr hs
    have h37 := hs.gv 1 rfl rfl
    go_simp
   intro vs w6 hr hE
   have e0 : vs 0 = .pointer (some ⟨kb, 0, none⟩) := hE _ (zaf 16 rfl)
   have e1 : vs 1 = .pointer (some ⟨kb, 0, none⟩) := hE _ (zaf 15 rfl)
   have e2 : vs 2 = .pointer (some ⟨kb, 0, none⟩) := hE _ (zaf 14 rfl)
   have e3 : vs 3 = .slice (some ad) t.length c0 := hE _ (zaf 13 rfl)
   have e4 : vs 4 = .pointer (some ⟨kb, 0, none⟩) := hE _ (zaf 12 rfl)
   have e5 : vs 5 = .pointer (some (ad.add (i * 4))) := hE _ (zaf 11 rfl)
   have e6 : vs 6 = .pointer (some (ad.add (i * 4))) := hE _ (zaf 10 rfl)
   have e7 : vs 7 = .pointer (some ⟨(ad.add (i * 4)).block, (ad.add (i * 4)).off + 1, none⟩) := hE _ (zaf 9 rfl)
   have e8 : vs 8 = .string (clsAt t i).f1 := hE _ (zaf 8 rfl)
   have e9 : vs 9 = .pointer (some ⟨w.heap.size, 0, none⟩) := hE _ (zaf 7 rfl)
   have e10 : vs 10 = .string nm := hE _ (zaf 6 rfl)
   have e11 : vs 11 = .tuple #[.int .i64 (arN mb nm), .bool (arB mb nm)] := hE _ (zaf 5 rfl)
   have e12 : vs 12 = .tuple #[.int .i64 (arN mb nm), .bool (arB mb nm)] := hE _ (zaf 4 rfl)
   have e13 : vs 13 = .int .i64 (arN mb nm) := hE _ (zaf 3 rfl)
   have e14 : vs 14 = .bool (arB mb nm) := hE _ (zaf 2 rfl)
   have e15 : vs 15 = .int .i64 (arN mb nm) := hE _ (zaf 1 rfl)
   have e16 : vs 16 = .bool (arB mb nm) := hE _ (zaf 0 rfl)
   rw [show List.range 17 = [0, 1, 2, 3, 4, 5, 6, 7, 8, 9, 10, 11, 12, 13, 14, 15, 16] from rfl]
   simp only [ps, ga, pa, e0, e1, e2, e3, e4, e5, e6, e7, e8, e9, e10, e11, e12, e13, e14, e15, e16]
   clear hE e0 e1 e2 e3 e4 e5 e6 e7 e8 e9 e10 e11 e12 e13 e14 e15 e16
   refine zbd ?_
   have hgr : Below w5.heap.size w5 w6 := (Below.refl w5.heap.size w5).drew.trans hr
   replace HC := zaa.mk (HC.out.below hgr)
   replace HS := zaa.mk (HS.out.below hgr)
   replace HG := zaa.mk (HG.out.below hgr)
   replace HM := zaa.mk (HM.out.below hgr)
   replace HV := zaa.mk ((hgr.block _ (zam HV.out)).trans HV.out)
   clear HD HGD HMD HVD hr hgr
   obtain ⟨b1, hb1⟩ : ∃ b1, b1 = arB mb nm := ⟨_, rfl⟩
   rw [← hb1] at HF ⊢
   clear hb1
   have HFC := zaa.mk (show Kd.C Kd.string w6.drew Af fs.length fs from by
    obtain ⟨A', c', e', _, h⟩ := Kd.zbB HS.out.fR
    cases e'
    exact Kd.zay h (Below.refl w6.heap.size w6).drew)
   cases b1 with
   | true =>
    rw [if_pos (.inl rfl)] at HF
    go_wp2_with fail
    have HD := zaa.mk HC.out.drew
    have HGD := zaa.mk (HG.out.below (Below.refl _ _).drew)
    have HMD := zaa.mk (HM.out.below (Below.refl _ _).drew)
    have HVD := zaa.mk (show w6.drew.heap[w.heap.size]? = some (.cells #[.string nm, .string ty] 48 (0, 0)) from HV.out)
    refine zbq (N := 59) 10 Grows k9 k9 rfl Grows.refl Grows.trans ?_
    rw [show List.range 10 = [0, 1, 2, 3, 4, 5, 6, 7, 8, 9] from rfl]
    refine rgv (.bool true) ?_ ?_
    ·
     intro a w' hr hs
     have h7 := hs.ov 7 (.bool true)
     go_simp
    refine rgv (.bool true) ?_ ?_
    ·
     intro a w' hr hs
     have h38 := hs.gv 0 rfl rfl
     go_simp
    refine zby rfl (fun a w hr hs => (za3 (g := 1) (t := 39) (b' := true) rfl rfl (hs.gv 0 rfl rfl)).trans rfl) ?_
    refine zby rfl (fun a w hr hs => (za3 (g := 1) (t := 39) (b' := true) rfl rfl (hs.gv 1 rfl rfl)).trans rfl) ?_
    refine zby rfl (fun a w hr hs => (za3 (g := 1) (t := 39) (b' := true) rfl rfl (hs.gv 2 rfl rfl)).trans rfl) ?_
    refine zby rfl (fun a w hr hs => (za3 (g := 1) (t := 39) (b' := true) rfl rfl (hs.gv 3 rfl rfl)).trans rfl) ?_
    refine zby rfl (fun a w hr hs => (za3 (g := 1) (t := 39) (b' := true) rfl rfl (hs.gv 4 rfl rfl)).trans rfl) ?_
    refine zby rfl (fun a w hr hs => (za3 (g := 1) (t := 39) (b' := true) rfl rfl (hs.gv 5 rfl rfl)).trans rfl) ?_
    refine zby rfl (fun a w hr hs => (za3 (g := 1) (t := 39) (b' := true) rfl rfl (hs.gv 6 rfl rfl)).trans rfl) ?_
    refine rgv (.bool true) ?_ ?_
    ·
     intro a w' hr hs
     have h39 := hs.gv 7 rfl rfl
     have h46 := hs.gv 0 rfl rfl
     go_simp
    intro vs w7 hr hE
    have e0 : vs 0 = .bool true := hE _ (zaf 9 rfl)
    have e1 : vs 1 = .bool true := hE _ (zaf 8 rfl)
    have e2 : vs 2 = undef := hE _ (zaf 7 rfl)
    have e3 : vs 3 = undef := hE _ (zaf 6 rfl)
    have e4 : vs 4 = undef := hE _ (zaf 5 rfl)
    have e5 : vs 5 = undef := hE _ (zaf 4 rfl)
    have e6 : vs 6 = undef := hE _ (zaf 3 rfl)
    have e7 : vs 7 = undef := hE _ (zaf 2 rfl)
    have e8 : vs 8 = undef := hE _ (zaf 1 rfl)
    have e9 : vs 9 = .bool true := hE _ (zaf 0 rfl)
    rw [show List.range 10 = [0, 1, 2, 3, 4, 5, 6, 7, 8, 9] from rfl]
    simp only [ps, ga, pa, e0, e1, e2, e3, e4, e5, e6, e7, e8, e9]
    clear hE e0 e1 e2 e3 e4 e5 e6 e7 e8 e9
    refine zbd ?_
    have hgr : Below w6.heap.size w6 w7 := (Below.refl w6.heap.size w6).drew.trans hr
    replace HC := zaa.mk (HC.out.below hgr)
    replace HS := zaa.mk (HS.out.below hgr)
    replace HG := zaa.mk (HG.out.below hgr)
    replace HM := zaa.mk (HM.out.below hgr)
    replace HV := zaa.mk ((hgr.block _ (zam HV.out)).trans HV.out)
    clear HD HGD HMD HVD hr hgr
    go_wp2_with fail
    go_ret
    exact ⟨by rw [HF.out]; rfl, _, fs, HS.out, fun e => by rw [HF.out] at e; cases e⟩
   | false =>
    go_wp2_with fail
    have HD := zaa.mk HC.out.drew
    have HGD := zaa.mk (HG.out.below (Below.refl _ _).drew)
    have HMD := zaa.mk (HM.out.below (Below.refl _ _).drew)
    have HVD := zaa.mk (show w6.drew.heap[w.heap.size]? = some (.cells #[.string nm, .string ty] 48 (0, 0)) from HV.out)
    refine zbq (N := 59) 10 Grows k9 k9 rfl Grows.refl Grows.trans ?_
    rw [show List.range 10 = [0, 1, 2, 3, 4, 5, 6, 7, 8, 9] from rfl]
    refine rgv (.bool false) ?_ ?_
    ·
     intro a w' hr hs
     have h7 := hs.ov 7 (.bool false)
     go_simp
    refine rgv (.bool false) ?_ ?_
    ·
     intro a w' hr hs
     have h38 := hs.gv 0 rfl rfl
     go_simp
    refine zbl (.pointer (some ⟨kb, 0, none⟩)) Grows.refl rfl (fun a w hr hs => za2 (g := 1) (t := 39) rfl rfl (hs.gv 0 rfl rfl)) ?_ ?_
    ·
     intro a w' hr hs
     have h0 := hs.ov 0 (.pointer (some ⟨kb, 0, none⟩))
     go_simp
    refine zbl (.pointer (some ⟨kb, 0, none⟩)) Grows.refl rfl (fun a w hr hs => za2 (g := 1) (t := 39) rfl rfl (hs.gv 1 rfl rfl)) ?_ ?_
    ·
     intro a w' hr hs
     have h40 := hs.gv 0 rfl rfl
     go_simp
    refine zbl (.pointer (some ⟨kb, 2, none⟩)) Grows.refl rfl (fun a w hr hs => za2 (g := 1) (t := 39) rfl rfl (hs.gv 2 rfl rfl)) ?_ ?_
    ·
     intro a w' hr hs
     have h41 := hs.gv 0 rfl rfl
     go_simp
    refine zbl (.slice Af fs.length cf) Grows.refl rfl (fun a w hr hs => za2 (g := 1) (t := 39) rfl rfl (hs.gv 3 rfl rfl)) ?_ ?_
    ·
     intro a w' hr hs
     have h42 := hs.gv 0 rfl rfl
     have g := (HD.out.below hr).k2
     go_simp
    refine zbl (.pointer (some ⟨w.heap.size, 0, none⟩)) Grows.refl rfl (fun a w hr hs => za2 (g := 1) (t := 39) rfl rfl (hs.gv 4 rfl rfl)) ?_ ?_
    ·
     intro a w' hr hs
     have h3 := hs.ov 3 (.pointer (some ⟨w.heap.size, 0, none⟩))
     go_simp
    refine zbl (.string nm) Grows.refl rfl (fun a w hr hs => za2 (g := 1) (t := 39) rfl rfl (hs.gv 5 rfl rfl)) ?_ ?_
    ·
     intro a w' hr hs
     have h44 := hs.gv 0 rfl rfl
     have g := zah (hr.at HVD.out) 0
     simp only [ga] at g
     go_simp
    refine zdN (fun v _ => v = .bool (hasN nm fs)) (fun _ _ _ _ h => h) rfl rfl Tryd.func33 k9 rfl (fun a w hr hs => za2 (g := 1) (t := 39) rfl rfl (hs.gv 6 rfl rfl)) ?_ ?_
    ·
     intro a w' hr hs
     have h43 := hs.gv 2 rfl rfl
     have h45 := hs.gv 0 rfl rfl
     rw [show (#[Operand.tmp 43, Operand.tmp 45] : Array Operand).map a.eval = #[.slice Af fs.length cf, .string nm] by simp [Act.eval, h43, h45]]
     refine (zbk Af cf fs nm _ (Kd.zay HFC.out hr) o9).mono ?_
     rintro e w3 ⟨rfl, rfl⟩
     exact ⟨_, rfl, Grows.refl _, rfl⟩
    refine rgv (.bool (hasN nm fs)) ?_ ?_
    ·
     intro a w' hr hs
     have h39 := hs.gv 7 rfl rfl
     have h46 := hs.gv 0 rfl rfl
     go_simp
    intro vs w7 hr hE
    have e0 : vs 0 = .bool false := hE _ (zaf 9 rfl)
    have e1 : vs 1 = .bool false := hE _ (zaf 8 rfl)
    have e2 : vs 2 = .pointer (some ⟨kb, 0, none⟩) := hE _ (zaf 7 rfl)
    have e3 : vs 3 = .pointer (some ⟨kb, 0, none⟩) := hE _ (zaf 6 rfl)
    have e4 : vs 4 = .pointer (some ⟨kb, 2, none⟩) := hE _ (zaf 5 rfl)
    have e5 : vs 5 = .slice Af fs.length cf := hE _ (zaf 4 rfl)
    have e6 : vs 6 = .pointer (some ⟨w.heap.size, 0, none⟩) := hE _ (zaf 3 rfl)
    have e7 : vs 7 = .string nm := hE _ (zaf 2 rfl)
    have e8 : vs 8 = .bool (hasN nm fs) := hE _ (zaf 1 rfl)
    have e9 : vs 9 = .bool (hasN nm fs) := hE _ (zaf 0 rfl)
    rw [show List.range 10 = [0, 1, 2, 3, 4, 5, 6, 7, 8, 9] from rfl]
    simp only [ps, ga, pa, e0, e1, e2, e3, e4, e5, e6, e7, e8, e9]
    clear hE e0 e1 e2 e3 e4 e5 e6 e7 e8 e9
    refine zbd ?_
    have hgr : Below w6.heap.size w6 w7 := (Below.refl w6.heap.size w6).drew.trans hr
    replace HC := zaa.mk (HC.out.below hgr)
    replace HS := zaa.mk (HS.out.below hgr)
    replace HG := zaa.mk (HG.out.below hgr)
    replace HM := zaa.mk (HM.out.below hgr)
    replace HV := zaa.mk ((hgr.block _ (zam HV.out)).trans HV.out)
    clear HD HGD HMD HVD hr hgr
    obtain ⟨b2, hb2⟩ : ∃ b2, b2 = hasN nm fs := ⟨_, rfl⟩
    rw [← hb2] at HF ⊢
    clear hb2 HFC
    cases b2 with
    | true =>
     rw [if_pos (.inr rfl)] at HF
     go_wp2_with fail
     go_ret
     exact ⟨by rw [HF.out]; rfl, _, fs, HS.out, fun e => by rw [HF.out] at e; cases e⟩
    | false =>
     rw [if_neg s9] at HF
     go_wp2_with fail
     have hfR := HS.out.fR
     have hown := Kd.zcc hfR
     obtain ⟨row, hrow⟩ : ∃ row, row = (Value.slice Af fs.length cf).ownBlock := ⟨_, rfl⟩
     have hrl : ∀ k, some k = row → k < w7.heap.size ∧ w0.heap.size ≤ k := fun k hk => by have := (Kd.za0 hfR).1 k (by rw [← hrow]; exact hk.symm); exact ⟨this.2.2.1, this.2.1⟩
     have hkne : ¬ some kb = row := by rw [hrow]; exact Kd.R_ne hfR HS.out.at_ d9
     have hvne : ¬ some w.heap.size = row := by rw [hrow]; exact Kd.R_ne hfR HV.out d9
     have hR0 : Kd.string.R 9 w7.drew w0.heap.size (fun k => some k = row ∧ some k ≠ (v3).ownBlock) (.slice Af fs.length cf) fs := Kd.zaY (Kd.zca hown (fun k hk => ⟨by rw [hrow]; exact hk.symm, hfR.1 k hk⟩)) (Below.refl w7.heap.size w7).drew
     have HR0 := zaa.mk hR0
     have HKD := zaa.mk (show w7.drew.heap[kb]? = _ from HS.out.at_)
     have HVD := zaa.mk (show w7.drew.heap[w.heap.size]? = _ from HV.out)
     have HRL := zaa.mk hrl
     have HKN := zaa.mk hkne
     have HVN := zaa.mk hvne
     have HBS := zaa.mk HS.out.bl.size
     clear hfR hown hrl hkne hvne hR0
     refine zdM (N := 59) 11 (fun i A B => (i = 8 → Grows A B) ∧ (¬ i = 8 → Mv (fun k => some k = row) A B)) (fun i A B => (i = 8 → Mv (fun k => some k = row) A B) ∧ (¬ i = 8 → Grows A B)) k9 k9 rfl (fun _ => ⟨fun _ => Grows.refl _, fun _ => Mv.refl _ _⟩) (fun _ _ => ⟨fun _ => Mv.refl _ _, fun _ => Grows.refl _⟩) (fun {i j A B C} hij h1 h2 => ⟨fun hj => (h1.1 hj).trans (h2.2 (fun e => hij (e.trans hj.symm))), fun hj => (h1.2 hj).trans (by by_cases hi : i = 8; exact h2.1 hi; exact Mv.zbN (h2.2 hi) _)⟩) ?_
     rw [show List.range 11 = [0, 1, 2, 3, 4, 5, 6, 7, 8, 9, 10] from rfl]
     refine zbr (.pointer (some ⟨kb, 0, none⟩)) (fun _ => ⟨fun _ => Mv.refl _ _, fun _ => Grows.refl _⟩) ?_ ?_
     ·
      intro vs a w' hr hs
      have h0 := hs.ov 0 (.pointer (some ⟨kb, 0, none⟩))
      go_simp
     refine zbr (.pointer (some ⟨kb, 0, none⟩)) (fun _ => ⟨fun _ => Mv.refl _ _, fun _ => Grows.refl _⟩) ?_ ?_
     ·
      intro vs a w' hr hs
      have h0 := hs.ov 0 (.pointer (some ⟨kb, 0, none⟩))
      go_simp
     refine zbr (.pointer (some ⟨kb, 0, none⟩)) (fun _ => ⟨fun _ => Mv.refl _ _, fun _ => Grows.refl _⟩) ?_ ?_
     ·
      intro vs a w' hr hs
      have h0 := hs.gv 0 rfl rfl
      go_simp
     refine zbr (.pointer (some ⟨kb, 2, none⟩)) (fun _ => ⟨fun _ => Mv.refl _ _, fun _ => Grows.refl _⟩) ?_ ?_
     ·
      intro vs a w' hr hs
      have h0 := hs.gv 0 rfl rfl
      go_simp
     refine zbr (.slice Af fs.length cf) (fun _ => ⟨fun _ => Mv.refl _ _, fun _ => Grows.refl _⟩) ?_ ?_
     ·
      intro vs a w' hr hs
      have h0 := hs.gv 0 rfl rfl
      have g := zah ((hr.2 d9).at HKD.out HKN.out) 2
      simp only [ga] at g
      go_simp
     refine zbr (.pointer (some ⟨w.heap.size, 0, none⟩)) (fun _ => ⟨fun _ => Mv.refl _ _, fun _ => Grows.refl _⟩) ?_ ?_
     ·
      intro vs a w' hr hs
      have h0 := hs.ov 3 (.pointer (some ⟨w.heap.size, 0, none⟩))
      go_simp
     refine zbr (.string nm) (fun _ => ⟨fun _ => Mv.refl _ _, fun _ => Grows.refl _⟩) ?_ ?_
     ·
      intro vs a w' hr hs
      have h0 := hs.gv 0 rfl rfl
      have g := zah ((hr.2 d9).at HVD.out HVN.out) 0
      simp only [ga] at g
      go_simp
     refine zcN (fun v W' => ∃ b, v = .slice (some ⟨b, 0, none⟩) 1 1 ∧ W'.heap[b]? = some (.cells #[.string nm] 9 (0, 0)) ∧ w7.heap.size ≤ b) (fun j hj v A B hg h => by obtain ⟨b, q1, q2, q3⟩ := h; refine ⟨b, q1, ?_, q3⟩; by_cases hj8 : j = 8; exact (hg.1 hj8).at q2 (fun e => by have := (HRL.out b e).1; omega); exact (hg.2 hj8).at q2) rfl (fun _ _ _ _ _ => zax rfl) ?_ ?_
     ·
      intro vs a w' hr hs
      have h0 := hs.gv 0 rfl rfl
      refine ⟨.slice (some ⟨w'.heap.size, 0, none⟩) 1 1, w'.alloc (.cells #[.string nm] 9), ?_, ⟨fun e => absurd e d9, fun _ => Grows.alloc _ _⟩, _, rfl, at_new _ _ rfl, (hr.2 d9).size⟩
      go_simp
     refine zcN (fun v W' => Kd.string.R 9 W' w0.heap.size (fun k => (some k = row ∧ some k ≠ (v3).ownBlock) ∨ w7.heap.size ≤ k) v (fs ++ [nm])) (fun j hj v A B hg h => Kd.zaY h (hg.2 hj)) rfl (fun _ _ _ _ _ => zax rfl) ?_ ?_
     ·
      intro vs a w' hr hs
      have h0 := hs.gv 3 rfl rfl
      obtain ⟨b, q1, q2, q3⟩ := hs.get 0 rfl k9 rfl
      have hgr : Grows w7.drew w' := hr.1 rfl
      refine zfe (a := a) (s := .tmp 52) (x := .tmp 55) Value.string (h1c := fun _ => rfl) w' rfl Tryd.underlying56 infoS rfl d9 w0.heap.size _ (.slice Af fs.length cf) fs nm b 1 (by simpa [Act.eval] using h0) (by simpa [Act.eval] using q1) ((zah q2 0).trans rfl) (Kd.zaY HR0.out hgr) (Nat.le_trans HBS.out hgr.size) o9 ?_
      intro v1 W1 hR1 hg1
      rw [← hrow] at hg1
      exact ⟨⟨fun _ => (Mv.refl _ _).grown hg1 (fun k e => .inl e.symm), fun e => absurd rfl e⟩, Kd.zaz hR1 (fun k hk => hk.imp id (fun h => Nat.le_trans hgr.size h))⟩
     refine zbr (.pointer (some ⟨kb, 0, none⟩)) (fun _ => ⟨fun _ => Mv.refl _ _, fun _ => Grows.refl _⟩) ?_ ?_
     ·
      intro vs a w' hr hs
      have h0 := hs.gv 8 rfl rfl
      go_simp
     refine zbr (.pointer (some ⟨kb, 2, none⟩)) (fun _ => ⟨fun _ => Mv.refl _ _, fun _ => Grows.refl _⟩) ?_ ?_
     ·
      intro vs a w' hr hs
      have h0 := hs.gv 0 rfl rfl
      go_simp
     intro vs w8 hr hE
     have hmv : Mv (fun k => some k = row) w7 w8 := (Mv.refl _ _).drew.trans (hr.2 d9)
     have hR8 := hE _ (zaf 2 rfl)
     simp only at hR8
     obtain ⟨A8, c8, e8⟩ := Kd.zaR hR8
     have e0 : vs 0 = .pointer (some ⟨kb, 0, none⟩) := hE _ (zaf 10 rfl)
     have e1 : vs 1 = .pointer (some ⟨kb, 0, none⟩) := hE _ (zaf 9 rfl)
     have e2 : vs 2 = .pointer (some ⟨kb, 0, none⟩) := hE _ (zaf 8 rfl)
     have e3 : vs 3 = .pointer (some ⟨kb, 2, none⟩) := hE _ (zaf 7 rfl)
     have e4 : vs 4 = .slice Af fs.length cf := hE _ (zaf 6 rfl)
     have e5 : vs 5 = .pointer (some ⟨w.heap.size, 0, none⟩) := hE _ (zaf 5 rfl)
     have e6 : vs 6 = .string nm := hE _ (zaf 4 rfl)
     have e9 : vs 9 = .pointer (some ⟨kb, 0, none⟩) := hE _ (zaf 1 rfl)
     have e10 : vs 10 = .pointer (some ⟨kb, 2, none⟩) := hE _ (zaf 0 rfl)
     obtain ⟨b7, e7, -, -⟩ := hE _ (zaf 3 rfl)
     rw [e8] at hR8
     rw [show List.range 11 = [0, 1, 2, 3, 4, 5, 6, 7, 8, 9, 10] from rfl]
     simp only [ps, ga, pa, e0, e1, e2, e3, e4, e5, e6, e7, e8, e9, e10]
     clear hE e0 e1 e2 e3 e4 e5 e6 e7 e8 e9 e10 hr
     have hk7 := hmv.at HS.out.at_ HKN.out
     have gk := zah hk7 2
     have fk := free_at hk7 2
     simp only [ga] at gk
     refine zbY (i := 11) (r := []) (w' := w8.setCell ⟨kb, 2, none⟩ (.slice A8 (fs ++ [nm]).length c8)) rfl (zax rfl) q9 (zbd ?_)
     have hmR : Kd.string.R 9 w8 w0.heap.size (fun k => some k ≠ row ∧ k < w7.heap.size) v3 ms := Kd.zbM (Kd.zaz (Kd.za0 HS.out.mR) (fun k hk => ⟨by rw [hrow]; exact hk.1, hk.2.2.1⟩)) (fun k ho hk => hmv.block k hk (fun h => ho.1 h))
     have hfR : Kd.string.R 9 w8 w0.heap.size (fun k => some k ≠ v3.ownBlock) (.slice A8 (fs ++ [nm]).length c8) (fs ++ [nm]) := Kd.zaz hR8 (fun k hk e => by
      have h3 := (Kd.za0 HS.out.mR).1 k e.symm
      rcases hk with hk | hk
      ·
       exact hk.2 e
      ·
       exact Nat.lt_irrefl _ (Nat.lt_of_lt_of_le h3.2.2.1 hk))
     have hmR2 : Kd.string.R 9 w8 w0.heap.size (fun k => some k ≠ (Value.slice A8 (fs ++ [nm]).length c8).ownBlock) v3 ms := Kd.zaz hmR (fun k hk e => by
      rcases hR8.1 k e.symm with h | h
      ·
       exact hk.1 h.1
      ·
       exact Nat.lt_irrefl _ (Nat.lt_of_lt_of_le hk.2 h))
     have hb8 : Below w0.heap.size w0 w8 := HS.out.bl.trans (hmv.below HS.out.bl.size (fun k h => (HRL.out k h).2))
     have KEY := zaa.mk (show ChkS w0 (w8.setCell ⟨kb, 2, none⟩ (.slice A8 (fs ++ [nm]).length c8)) kb ad c0 t i (.slice A8 (fs ++ [nm]).length c8) v3 (fs ++ [nm]) ms from
      ⟨zaK hk7 2 _ rfl, hb8.trans (((Mv.refl (fun k => w0.heap.size ≤ k) w8).setCell (p := ⟨kb, 2, none⟩) (.inl HS.out.kb0) _).below hb8.size (fun _ h => h)), HS.out.kb0, Kd.R_set hfR hk7 d9 2 _, Kd.R_set hmR2 hk7 d9 2 _⟩)
     clear hmR hfR hmR2 hb8 hR8 hk7 gk fk hmv
     rw [show (fs ++ [nm]).length = fs.length + 1 by simp] at KEY
     go_wp2_with fail
     go_ret
     exact ⟨by rw [HF.out]; rfl, _, fs ++ [nm], KEY.out, fun _ => rfl⟩
  ·
   rw [if_pos hE] at HF
   go_wp2_with fail
   go_ret
   exact ⟨by rw [HF.out]; rfl, _, fs, HS.out, fun e => absurd (HF.out.symm.trans e) hE⟩
theorem zeV (a0 a1 b0 b1 : ByteArray) (w : World) : Calls Tryd.prog 70 #[.agg #[.string a0, .string a1], .agg #[.string b0, .string b1]] w fun e w' => e = .returned (.bool (a1.toList == b1.toList)) ∧ Below w.heap.size w w' := by
 have hu := Tryd.underlying48
 go_enter Tryd.func70, Tryd.ntmps70
 go_wp2
 go_ret
 exact ⟨rfl, ((Below.refl _ _).alloc (Nat.le_refl _) _).alloc s9 _⟩
def eqV : List (S48) → List (S48) → Bool
 | x :: r, y :: s => (x.f1.toList == y.f1.toList) && eqV r s
 | _, _ => true
theorem zhJ (l m : List (S48)) (i : Nat) (h : i < l.length) (h2 : i < m.length) : eqV (l.drop i) (m.drop i) = (((za1 l (i : Int)).f1.toList == (za1 m (i : Int)).f1.toList) && eqV (l.drop (i + 1)) (m.drop (i + 1))) := by
 rw [List.drop_eq_getElem_cons h, List.drop_eq_getElem_cons h2]
 unfold za1
 rw [Int.toNat_natCast, List.getD_eq_getElem?_getD, List.getElem?_eq_getElem h, List.getD_eq_getElem?_getD, List.getElem?_eq_getElem h2]
 rfl
def likeV (l m : List (S48)) : Bool := decide (l.length = m.length) && eqV l m
theorem zeq (A0 A1 : Option Addr) (c0 c1 : Nat) (l m : List (S48)) (w : World) (hr0 : Kd.C k48 w A0 l.length l) (hr1 : Kd.C k48 w A1 m.length m) (hl : l.length < 4398046511104) (hm : m.length < 4398046511104) :
  Calls Tryd.prog 71 #[.slice A0 l.length c0, .slice A1 m.length c1, .func (.func 70) #[] #[]] w fun e w' => e = .returned (.bool (likeV l m)) ∧ Below w.heap.size w w' := by
 have hu := Tryd.underlying48
 have HR0 := zaa.mk hr0
 have HR1 := zaa.mk hr1
 unfold likeV
 by_cases hlen : l.length = m.length
 ·
  have hd : decide (l.length = m.length) = true := by simpa using hlen
  rw [hd, Bool.true_and]
  have hne : decide ((l.length : Int) = (m.length : Int)) = true := by simp; omega
  obtain ⟨r, hr⟩ : ∃ r, r = eqV l m := ⟨_, rfl⟩
  rw [← hr]
  have HH := zaa.mk hr.symm
  have HL := zaa.mk hlen
  have hlenI : (l.length : Int) = (m.length : Int) := by omega
  clear hr hd hr0 hr1 hlen
  go_enter Tryd.func71, Tryd.ntmps71
  go_wp2
  go_loopw [17] (fun v17 wr => ∃ i : Nat, i ≤ l.length ∧ v17 = .int .i64 i ∧ zaa (eqV (l.drop i) (m.drop i) = r ∧ Below w.heap.size w wr)) (fun v17 _ => l.length - (intOf v17).toNat)
  case atStart => exact ⟨0, Nat.zero_le _, rfl, ⟨HH.out, Below.refl _ _⟩⟩
  case round =>
   obtain ⟨i, hi, rfl, ⟨hI, hB⟩⟩ := hrel
   have HB := zaa.mk hB
   have hlen := HL.out
   by_cases hlt : i < l.length
   ·
    obtain ⟨ad, hA, x0, x1⟩ := zcM (Kd.zay HR0.out hB) (i : Int) o9 o9
    obtain ⟨ad2, hA2, y0, y1⟩ := zcM (Kd.zay HR1.out hB) (i : Int) o9 o9
    simp only [Int.toNat_natCast] at x0 x1 y0 y1
    have HA := zhJ l m i hlt o9
    rw [hI] at HA
    obtain ⟨x, hx⟩ : ∃ x, x = za1 l (i : Int) := ⟨_, rfl⟩
    obtain ⟨y, hy⟩ : ∃ y, y = za1 m (i : Int) := ⟨_, rfl⟩
    rw [← hx, ← hy] at HA
    rw [← hx] at x0 x1
    rw [← hy] at y0 y1
    have hltM : (i : Int) < (m.length : Int) := by omega
    have hltL : (i : Int) < (l.length : Int) := by omega
    clear hx hy hI hB hlen
    subst hA hA2
    have ya : (wr.alloc (.cells #[.string x.f0, .string x.f1] 48)).cell? (ad2.add (i * 2)) = some (.string y.f0) := (((Below.refl wr.heap.size wr).alloc (Nat.le_refl _) _).cell (block_lt_of_cell y0)).trans y0
    have yb : (wr.alloc (.cells #[.string x.f0, .string x.f1] 48)).cell? ⟨(ad2.add (i * 2)).block, (ad2.add (i * 2)).off + 1, none⟩ = some (.string y.f1) := (((Below.refl wr.heap.size wr).alloc (Nat.le_refl _) _).cell (block_lt_of_cell y1)).trans y1
    have HAL := zaa.mk fun w => zeV x.f0 x.f1 y.f0 y.f1 w
    obtain ⟨q, hq⟩ : ∃ q : Bool, q = (x.f1.toList == y.f1.toList) := ⟨_, rfl⟩
    rw [← hq] at HA
    simp only [← hq] at HAL
    clear hq
    go_wp2_with fail
    refine (HAL.out _).mono ?_
    rintro e w2 ⟨rfl, hb⟩
    have HB2 := zaa.mk (show Below w.heap.size w w2 from (HB.out.trans ((((Below.refl wr.heap.size wr).alloc (Nat.le_refl _) _).alloc s9 _).mono HB.out.size)).trans (hb.mono (by have := HB.out.size; simp; omega)))
    clear hb
    cases q with
    | true =>
     rw [Bool.true_and] at HA
     have HA2 := zaa.mk HA.symm
     clear HA
     go_wp2_with fail
     go_roundw
     case rel => exact ⟨i + 1, by omega, by go_num, ⟨HA2.out, HB2.out⟩⟩
     case measure => simp [intOf]; omega
    | false =>
     rw [Bool.false_and] at HA
     subst HA
     go_wp2_with fail
     go_ret
     exact ⟨rfl, HB2.out⟩
   ·
    have hi2 : i = l.length := by omega
    have HA2 := zaa.mk (show r = true by rw [← hI, hi2, List.drop_length]; rfl)
    clear hI hi2 hB hlen
    go_wp2_with fail
    go_ret
    exact ⟨by rw [HA2.out]; rfl, HB.out⟩
 ·
  have hd : decide (l.length = m.length) = false := by simpa using hlen
  rw [hd, Bool.false_and]
  have hne : decide ((l.length : Int) = (m.length : Int)) = false := by simp; omega
  have hneI : ¬ (l.length : Int) = (m.length : Int) := by omega
  clear hd hr0 hr1
  go_enter Tryd.func71, Tryd.ntmps71
  go_wp2
  go_ret
  exact ⟨rfl, Below.refl _ _⟩
theorem zfC {P : Program} {ops : Array Oper} {rest : List Oper} {Q : Exit → Act → World → Prop} {α : Type} {o : Oper} {a : Act} (enc : α → Value) {h1c : ∀ x, (enc x).oneCell' = true} (W : World) (hgd : o.guard = none) (s x : Operand) (t e : TypeId) (z : Value) (bytes : Nat)
  (ho : o.op = .call { callee := .builtin .append, args := #[s, x], argTypes := #[t, t] })
  (ht : P.underlying t = some (.slice e)) (hinfo : (P.info? e).map (fun i => (i.zero, i.size, i.bytes)) = some (some z, 1, bytes)) (hz : z.cells.size = 1) (hb0 : 0 < bytes)
  (base : Nat) (ok : Nat → Prop) (v : Value) (xs : List α) (p : α) (g c : Nat) (hs : a.eval s = v) (hx : a.eval x = .slice (some ⟨g, 0, none⟩) 1 c) (hg : W.cell? ⟨g, 0, none⟩ = some (enc p))
  (HO : (Kd.scalar enc h1c).R e W base ok v xs) (hbase : base ≤ W.heap.size) (hl : (xs.length + 1) * bytes ≤ 140737488355328)
  (h : ∀ v1 w1, (Kd.scalar enc h1c).R e w1 base (fun k => ok k ∨ W.heap.size ≤ k) v1 (xs ++ [p]) → W.grownBy w1 v.ownBlock → wpList P ops Q rest (a.put o.dst v1) w1) :
  wpList P ops Q (o :: rest) a W := by
 obtain ⟨v1, w1, h1, h2, h3⟩ := zge (o := o) (a := a) enc (h1c := h1c) W ho ht hinfo hz hb0 base ok v xs p g c hs hx hg HO hbase hl
 exact Kd.zdH hgd h1 (h v1 w1 h2 h3)
def zcT (t : List (S43)) : List (S48) → List ByteArray → Int
 | [], _ => 0
 | p :: r, came => if p.f0.toList.isEmpty = true then 5 else if ¬ zcf t p.f0 p.f1 = 0 then zcf t p.f0 p.f1 else if hasN p.f0 came = true then 8 else zcT t r (came ++ [p.f0])
def zcu (t : List (S43)) (su : ByteArray) (fs ms : List ByteArray) (mn : ByteArray) (pz : List (S48)) (rs : ByteArray) : Int :=
 if nameB mn = false then 5 else if ¬ zcT t pz [] = 0 then zcT t pz [] else if ¬ zcf t ⟨#[]⟩ rs = 0 then zcf t ⟨#[]⟩ rs
 else if zcw t su mn = true ∨ hasN mn fs = true ∨ hasN mn ms = true then 8
 else if (methodAt t mn (lineL t su)).isSome = true ∧ (¬ (methM t mn (methodAt t mn (lineL t su))).f2.toList = rs.toList ∨ likeV (methM t mn (methodAt t mn (lineL t su))).f1 pz = false) then 10 else 0
theorem zfx (t : List (S43)) (pz : List (S48)) (j : Nat) (h : j < pz.length) (came : List ByteArray) : zcT t (pz.drop j) came = if (za1 pz (j : Int)).f0.toList.isEmpty = true then 5 else if ¬ zcf t (za1 pz (j : Int)).f0 (za1 pz (j : Int)).f1 = 0 then zcf t (za1 pz (j : Int)).f0 (za1 pz (j : Int)).f1 else if hasN (za1 pz (j : Int)).f0 came = true then 8 else zcT t (pz.drop (j + 1)) (came ++ [(za1 pz (j : Int)).f0]) := by
 rw [List.drop_eq_getElem_cons h]
 unfold za1
 rw [Int.toNat_natCast, List.getD_eq_getElem?_getD, List.getElem?_eq_getElem h]
 rfl
structure TG (n : Nat) (A B : World) : Prop where
 mv : Mv (fun k => n ≤ k) A B
 kept : ∀ (k : Nat) (o : Obj), A.heap[k]? = some o → (∀ c, o ≠ Obj.cells c 51 (0, 0)) → B.heap[k]? = some o
 sig : ∀ (k : Nat) (x y z : Value), A.heap[k]? = some (Obj.cells #[x, y, z] 51 (0, 0)) → ∃ x' y' z', B.heap[k]? = some (Obj.cells #[x', y', z'] 51 (0, 0))
theorem TG.refl (n : Nat) (A : World) : TG n A A := ⟨Mv.refl _ _, fun _ _ h _ => h, fun _ x y z h => ⟨x, y, z, h⟩⟩
theorem TG.trans {n : Nat} {A B C : World} (h : TG n A B) (k : TG n B C) : TG n A C := ⟨h.mv.trans k.mv, fun i o hi ho => k.kept i o (h.kept i o hi ho) ho, fun i x y z hi => by
 obtain ⟨x', y', z', h'⟩ := h.sig i x y z hi
 exact k.sig i x' y' z' h'⟩
theorem TG.zgK {n : Nat} {A B : World} (h : Grows A B) : TG n A B := ⟨Mv.zbN h _, fun _ _ hk _ => h.at hk, fun _ x y z hk => ⟨x, y, z, h.at hk⟩⟩
theorem TG.bl {n : Nat} {A B : World} (h : TG n A B) (hn : n ≤ A.heap.size) : Below n A B := h.mv.below hn (fun _ h => h)
theorem TG.row {n base : Nat} {A B : World} (h : TG n A B) {ok : Nat → Prop} {v : Value} {xs : List (S48)} (hR : Kd.R k48 48 A base ok v xs) : Kd.R k48 48 B base ok v xs :=
 Kd.zaz (Kd.zbM (Kd.za0 hR) (fun k hk _ => by
  obtain ⟨_, _, _, q, hq, cells, hc⟩ := hk
  have hq' : q ∈ [48] := hq
  replace hq' := List.mem_singleton.1 hq'
  subst hq'
  rw [hc]
  exact h.kept k _ hc (fun c e => by injection e with _ e2; exact absurd e2 d9))) (fun k hk => hk.1)
theorem TG.zg8 {n b : Nat} {A : World} {x y z : Value} (h : A.heap[b]? = some (.cells #[x, y, z] 51 (0, 0))) (hb : n ≤ b) (x' y' z' : Value) : TG n A (A.setRow b #[x', y', z']) :=
 ⟨⟨rfl, rfl, rfl, by simp, fun k _ hk => setRow_other A b k _ (fun e => hk (e ▸ hb))⟩, fun k o hk ho => by
  by_cases e : k = b
  ·
   subst e; rw [h] at hk; injection hk with hk; exact absurd hk.symm (ho _)
  ·
   rw [setRow_other A b k _ e]; exact hk, fun k u1 u2 u3 hk => by
  by_cases e : k = b
  ·
   subst e; exact ⟨x', y', z', setRow_heap A k _ _ _ _ hk⟩
  ·
   exact ⟨u1, u2, u3, by rw [setRow_other A b k _ e]; exact hk⟩⟩
theorem zeg {P : Program} {o : Oper} {a : Act} {w : World} (ty : TypeId) (x y : Operand) (ho : o.op = .store ty x y) (g : Nat) (cells : Array Value) (hx : a.eval x = .pointer (some ⟨g, 0, none⟩)) (hy : a.eval y = .agg cells)
  (t : TypeId) (old : Array Value) (hg : w.heap[g]? = some (.cells old t (0, 0))) (hi : (P.info? ty).map (·.size) = some cells.size) (hold : old.size = cells.size) (h1 : cells.all (·.oneCell') = true) : (execOp a.eval o).run P w = .ok .skip (w.setRow g cells) := by
 unfold execOp
 simp only [ho, hx, hy, Instr.storeAt, Instr.sureAddr, Sem.run_bind, Sem.run_pure, Result.andThen_ok, run_storeVar_row w g t ty old cells hg hi hold h1]
theorem zdt {l : List Nat} {j : Nat} (h : l.contains j = true) : j ∈ l := by simpa using h
theorem zgu {t : List (S43)} (hs : Small t) (cls nm : ByteArray) : (methM t nm (methodAt t nm (lineL t cls))).f1.length < 4398046511104 := by
 cases h : methodAt t nm (lineL t cls) with
 | none => simp [methM, z51]
 | some p =>
  refine zeE nm _ ?_
  by_cases hp : p < t.length
  ·
   exact hs.ps p hp
  ·
   have : clsAt t p = z43 := by unfold clsAt zbF; simp [List.getD_eq_getElem?_getD, List.getElem?_eq_none (Nat.le_of_not_lt hp)]
   rw [this]; intro m hm; simp [z43] at hm
theorem zd3 (pz : List (S48)) (j : Nat) (h : j < pz.length) : (pz.take (j + 1)).map (·.f0) = (pz.take j).map (·.f0) ++ [(za1 pz (j : Int)).f0] := by
 rw [List.take_succ_eq_append_getElem h, List.map_append]
 unfold za1
 rw [Int.toNat_natCast, List.getD_eq_getElem?_getD, List.getElem?_eq_getElem h]
 rfl
theorem zeo (w0 w : World) (kb : Nat) (ad : Addr) (c0 : Nat) (t : List (S43)) (i : Nat) (v2 v3 : Value) (fs ms : List ByteArray) (mn : ByteArray) (Ap : Option Addr) (cp : Nat) (pz : List (S48)) (rs : ByteArray) (h0 : Tab0 w0 ad c0 t i) (h : ChkS w0 w kb ad c0 t i v2 v3 fs ms)
  (hps : Kd.C k48 w0 Ap pz.length pz) (hsm : Small t) (hfd : (zbH t (clsAt t i).f1).length < 4398046511104) (hmn : mn.size ≤ 9223372036854775807) (hrs : rs.size ≤ 9223372036854775807) (hpz : ∀ p ∈ pz, p.f0.size ≤ 9223372036854775807 ∧ p.f1.size ≤ 9223372036854775807)
  (hpl : pz.length < 1000000) (hfl : fs.length < 1000000) (hml : ms.length < 1000000) :
  Calls Tryd.prog 48 #[.pointer (some ⟨kb, 0, none⟩), .agg #[.string mn, .slice Ap pz.length cp, .string rs]] w fun e w' => e = .returned (.int .i64 (zcu t (clsAt t i).f1 fs ms mn pz rs)) ∧ ∃ v3' ms', ChkS w0 w' kb ad c0 t i v2 v3' fs ms' ∧ (zcu t (clsAt t i).f1 fs ms mn pz rs = 0 → ms' = ms ++ [mn]) := by
 obtain ⟨Af, cf, hvf⟩ := Kd.zaR h.fR
 obtain ⟨Am, cm, hvm⟩ := Kd.zaR h.mR
 subst hvf hvm
 obtain ⟨r, hr⟩ : ∃ r, r = zcu t (clsAt t i).f1 fs ms mn pz rs := ⟨_, rfl⟩
 have HF := zaa.mk hr
 rw [← hr]
 unfold zcu at HF
 obtain ⟨E1, hE1⟩ : ∃ E1, E1 = zcT t pz [] := ⟨_, rfl⟩
 obtain ⟨E3, hE3⟩ : ∃ E3, E3 = zcf t ⟨#[]⟩ rs := ⟨_, rfl⟩
 obtain ⟨b0, hb0⟩ : ∃ b0, b0 = nameB mn := ⟨_, rfl⟩
 rw [← hE1, ← hE3, ← hb0] at HF
 have HE1 := zaa.mk hE1.symm
 have HE3 := zaa.mk hE3.symm
 obtain ⟨w1, hw1⟩ : ∃ w1, w1 = w.alloc (.cells #[.string mn, .slice Ap pz.length cp, .string rs] 51) := ⟨_, rfl⟩
 have hg1 : Below w.heap.size w w1 := by rw [hw1]; exact (Below.refl _ _).alloc (Nat.le_refl _) _
 have hv1 : w1.heap[w.heap.size]? = some (.cells #[.string mn, .slice Ap pz.length cp, .string rs] 51 (0, 0)) := by rw [hw1]; exact at_new w _ rfl
 have HNA := zaa.mk (zdX mn w1 hmn (h0.gw.below (h.below hg1).bl))
 rw [← hb0] at HNA
 have HS := zaa.mk (h.below hg1)
 have HV := zaa.mk hv1
 obtain ⟨ad', A2, c2, A3, c3, e', hc⟩ := ((h.below hg1).chk h0).cls
 cases e'
 have HC := zaa.mk hc
 have HG := zaa.mk (h0.gw.below (h.below hg1).bl)
 have HPS := zaa.mk hps
 have HPZ := zaa.mk hpz
 have hu := Tryd.underlying58
 have hu2 := Tryd.underlying43
 have hu3 := Tryd.underlying48
 have hu4 := Tryd.underlying51
 clear h hr hE1 hE3 hb0 hc hg1 hv1 hps hpz
 go_enter Tryd.func48, Tryd.ntmps48
 go_wp2_with fail
 rw [← hw1]
 clear hw1
 refine HNA.out.mono ?_
 rintro e w2 ⟨rfl, hb⟩
 replace HC := zaa.mk (HC.out.below hb)
 replace HS := zaa.mk (HS.out.below hb)
 replace HG := zaa.mk (HG.out.below hb)
 replace HV := zaa.mk ((hb.block _ (zam HV.out)).trans HV.out)
 clear hb HNA
 cases b0 with
 | false =>
  rw [if_pos rfl] at HF
  go_wp2_with fail
  go_ret
  exact ⟨by rw [HF.out]; rfl, _, ms, HS.out, fun e => by rw [HF.out] at e; cases e⟩
 | true =>
  rw [if_neg d9] at HF
  have g1 := zah HV.out 1
  simp only [ga] at g1
  go_wp2_with fail
  go_loopw [5, 23] (fun v5 v23 wr => ∃ (j : Nat) (A : Option Addr) (c : Nat), j ≤ pz.length ∧ v5 = .slice A j c ∧ v23 = .int .i64 (j : Int) ∧ zaa (zcT t (pz.drop j) ((pz.take j).map (·.f0)) = E1 ∧ Kd.string.R 9 wr w2.heap.size (fun _ => True) (.slice A j c) ((pz.take j).map (·.f0)) ∧ Below w2.heap.size w2 wr)) (fun _ v23 _ => pz.length - (intOf v23).toNat)
  case atStart => exact ⟨0, none, 0, Nat.zero_le _, rfl, rfl, ⟨HE1.out, Kd.R_nil _ _ _ _ _, Below.refl _ _⟩⟩
  case round =>
   obtain ⟨j, A, c, hj, rfl, rfl, ⟨hI, hR, hB⟩⟩ := hrel
   have HB := zaa.mk hB
   have HR := zaa.mk hR
   have HSr := zaa.mk (HS.out.below hB)
   have HCr := zaa.mk (HC.out.below hB)
   have HGr := zaa.mk (HG.out.below hB)
   have HVr := zaa.mk ((hB.block _ (zam HV.out)).trans HV.out)
   clear HS HC HG HV
   have HS := HSr
   have HC := HCr
   have HG := HGr
   have HV := HVr
   clear HSr HCr HGr HVr
   by_cases hlt : j < pz.length
   ·
    obtain ⟨adp, hAp, x0, x1⟩ := zcM (Kd.zay HPS.out HS.out.bl) (j : Int) o9 o9
    simp only [Int.toNat_natCast] at x0 x1
    have hat := zfx t pz j hlt ((pz.take j).map (·.f0))
    have hts := zd3 pz j hlt
    obtain ⟨p, hp⟩ : ∃ p, p = za1 pz (j : Int) := ⟨_, rfl⟩
    rw [← hp] at x0 x1 hat hts
    rw [← hts, hI] at hat
    have hpm : p ∈ pz := by
     rw [hp]; unfold za1
     rw [Int.toNat_natCast, List.getD_eq_getElem?_getD, List.getElem?_eq_getElem hlt]
     exact List.getElem_mem hlt
    have hp0 := (HPZ.out p hpm).1
    have hp1 := (HPZ.out p hpm).2
    have HAT := zaa.mk hat
    have HTS := zaa.mk hts
    have j0 : (0 : Int) ≤ (j : Int) := by omega
    have j1 : (j : Int) < (pz.length : Int) := by omega
    subst hAp
    obtain ⟨z, hz⟩ : ∃ z : Bool, z = p.f0.toList.isEmpty := ⟨_, rfl⟩
    have hz1 : p.f0.toList.isEmpty = z := hz.symm
    have hz3 : (p.f0.toList == []) = z := by rw [hz]; cases p.f0.toList <;> rfl
    rw [hz1] at HAT
    obtain ⟨wb, hwb⟩ : ∃ wb, wb = wr.alloc (.cells #[.string p.f0, .string p.f1] 48) := ⟨_, rfl⟩
    have hgb : Below wr.heap.size wr wb := by rw [hwb]; exact (Below.refl _ _).alloc (Nat.le_refl _) _
    have hpb : wb.heap[wr.heap.size]? = some (.cells #[.string p.f0, .string p.f1] 48 (0, 0)) := by rw [hwb]; exact at_new wr _ rfl
    have HP := zaa.mk hpb
    have HGB := zaa.mk hgb
    clear hz hp hpm hat hts hI hR hB hgb hpb g1
    cases z with
    | true =>
     rw [if_pos rfl] at HAT
     rw [if_pos (by rw [HAT.out]; decide)] at HF
     go_wp2_with fail
     rw [← hwb]
     go_ret
     exact ⟨by rw [HF.out, HAT.out]; rfl, _, ms, HS.out.below HGB.out, fun e => by rw [HF.out, HAT.out] at e; cases e⟩
    | false =>
     rw [if_neg d9] at HAT
     go_wp2_with fail
     rw [← hwb]
     clear x0 x1 hwb
     obtain ⟨E2, hE2⟩ : ∃ E2, E2 = zcf t p.f0 p.f1 := ⟨_, rfl⟩
     rw [← hE2] at HAT
     have HE2 := zaa.mk hE2.symm
     replace HC := zaa.mk (HC.out.below HGB.out)
     replace HS := zaa.mk (HS.out.below HGB.out)
     replace HG := zaa.mk (HG.out.below HGB.out)
     replace HV := zaa.mk ((HGB.out.block _ (zam HV.out)).trans HV.out)
     clear hE2
     have HD := zaa.mk HC.out.drew
     have HGD := zaa.mk (HG.out.below (Below.refl _ _).drew)
     have HVD := zaa.mk (show wb.drew.heap[w.heap.size]? = some (.cells #[.string mn, .slice (some adp) pz.length cp, .string rs] 51 (0, 0)) from HV.out)
     have HPD := zaa.mk (show wb.drew.heap[wr.heap.size]? = some (.cells #[.string p.f0, .string p.f1] 48 (0, 0)) from HP.out)
     refine zbq (N := 140) 10 Grows k9 k9 rfl Grows.refl Grows.trans ?_
     rw [show List.range 10 = [0, 1, 2, 3, 4, 5, 6, 7, 8, 9] from rfl]
     refine rgv (.pointer (some ⟨kb, 0, none⟩)) ?_ ?_
     ·
      intro a w' hr hs
      have h0 := hs.ov 0 (.pointer (some ⟨kb, 0, none⟩))
      go_simp
     refine rgv (.pointer (some ⟨kb, 0, none⟩)) ?_ ?_
     ·
      intro a w' hr hs
      have h30 := hs.gv 0 rfl rfl
      go_simp
     refine rgv (.pointer (some ⟨kb, 0, none⟩)) ?_ ?_
     ·
      intro a w' hr hs
      have h31 := hs.gv 0 rfl rfl
      go_simp
     refine rgv (.slice (some ad) t.length c0) ?_ ?_
     ·
      intro a w' hr hs
      have h32 := hs.gv 0 rfl rfl
      have g := (HD.out.below hr).k0
      go_simp
     refine rgv (.pointer (some ⟨wr.heap.size, 0, none⟩)) ?_ ?_
     ·
      intro a w' hr hs
      have h7 := hs.ov 7 (.pointer (some ⟨wr.heap.size, 0, none⟩))
      go_simp
     refine rgv (.string p.f0) ?_ ?_
     ·
      intro a w' hr hs
      have h34 := hs.gv 0 rfl rfl
      have g := zah (hr.at HPD.out) 0
      simp only [ga] at g
      go_simp
     refine rgv (.pointer (some ⟨wr.heap.size, 1, none⟩)) ?_ ?_
     ·
      intro a w' hr hs
      have h7 := hs.ov 7 (.pointer (some ⟨wr.heap.size, 0, none⟩))
      go_simp
     refine rgv (.string p.f1) ?_ ?_
     ·
      intro a w' hr hs
      have h36 := hs.gv 0 rfl rfl
      have g := zah (hr.at HPD.out) 1
      simp only [ga] at g
      go_simp
     refine rgc (fun v _ => v = .int .i64 E2) Tryd.func67 ?_ ?_
     ·
      intro a w' hr hs
      have h33 := hs.gv 4 rfl rfl
      have h35 := hs.gv 2 rfl rfl
      have h37 := hs.gv 0 rfl rfl
      rw [show (#[Operand.tmp 33, Operand.tmp 35, Operand.tmp 37] : Array Operand).map a.eval = #[.slice (some ad) t.length c0, .string p.f0, .string p.f1] by simp [Act.eval, h33, h35, h37]]
      refine (zcQ (some ad) c0 t p.f0 p.f1 _ (HD.out.below hr).tab HD.out.max hp0 hp1 (HGD.out.below hr)).mono ?_
      rintro e w3 ⟨rfl, hb⟩
      exact ⟨_, rfl, hb, by rw [HE2.out]⟩
     refine rgv (.int .i64 E2) ?_ ?_
     ·
      intro a w' hr hs
      have h38 := hs.gv 0 rfl rfl
      go_simp
     intro vs w5 hr hE
     have e0 : vs 0 = .pointer (some ⟨kb, 0, none⟩) := hE _ (zaf 9 rfl)
     have e1 : vs 1 = .pointer (some ⟨kb, 0, none⟩) := hE _ (zaf 8 rfl)
     have e2 : vs 2 = .pointer (some ⟨kb, 0, none⟩) := hE _ (zaf 7 rfl)
     have e3 : vs 3 = .slice (some ad) t.length c0 := hE _ (zaf 6 rfl)
     have e4 : vs 4 = .pointer (some ⟨wr.heap.size, 0, none⟩) := hE _ (zaf 5 rfl)
     have e5 : vs 5 = .string p.f0 := hE _ (zaf 4 rfl)
     have e6 : vs 6 = .pointer (some ⟨wr.heap.size, 1, none⟩) := hE _ (zaf 3 rfl)
     have e7 : vs 7 = .string p.f1 := hE _ (zaf 2 rfl)
     have e8 : vs 8 = .int .i64 E2 := hE _ (zaf 1 rfl)
     have e9 : vs 9 = .int .i64 E2 := hE _ (zaf 0 rfl)
     rw [show List.range 10 = [0, 1, 2, 3, 4, 5, 6, 7, 8, 9] from rfl]
     simp only [ps, ga, pa, e0, e1, e2, e3, e4, e5, e6, e7, e8, e9]
     clear hE e0 e1 e2 e3 e4 e5 e6 e7 e8 e9
     refine zbd ?_
     have hgr : Below wb.heap.size wb w5 := (Below.refl wb.heap.size wb).drew.trans hr
     replace HC := zaa.mk (HC.out.below hgr)
     replace HS := zaa.mk (HS.out.below hgr)
     replace HG := zaa.mk (HG.out.below hgr)
     replace HV := zaa.mk ((hgr.block _ (zam HV.out)).trans HV.out)
     replace HP := zaa.mk ((hgr.block _ (zam HP.out)).trans HP.out)
     have HB5 := zaa.mk (HGB.out.trans (hgr.mono HGB.out.size))
     clear HPD HGB
     clear HD HGD HVD hr hgr
     by_cases hE : E2 = 0
     ·
      rw [if_neg (fun h => h hE)] at HAT
      have hE1 : decide (E2 = 0) = true := by simpa using hE
      subst hE
      have g2 := zah HP.out 0
      simp only [ga] at g2
      have hnl : ((pz.take j).map (·.f0)).length = j := by simp; omega
      have HR5 := zaa.mk (Kd.zaY HR.out HB5.out)
      have hK := zbk A c ((pz.take j).map (·.f0)) p.f0 w5 (by
       obtain ⟨A', c', e', _, h⟩ := Kd.zbB HR5.out
       rw [hnl] at e'
       cases e'
       exact h) (by rw [hnl]; omega)
      rw [hnl] at hK
      have HK := zaa.mk hK
      obtain ⟨b3, hb3⟩ : ∃ b3, b3 = hasN p.f0 ((pz.take j).map (·.f0)) := ⟨_, rfl⟩
      rw [← hb3] at HK HAT
      have HNL := zaa.mk hnl
      clear hK hb3 hnl
      go_wp2_with fail
      refine HK.out.mono ?_
      rintro e w6 ⟨rfl, rfl⟩
      clear HK
      cases b3 with
      | true =>
       rw [if_pos rfl] at HAT
       rw [if_pos (by rw [HAT.out]; decide)] at HF
       go_wp2_with fail
       go_ret
       exact ⟨by rw [HF.out, HAT.out]; rfl, _, ms, HS.out, fun e => by rw [HF.out, HAT.out] at e; cases e⟩
      | false =>
       rw [if_neg d9] at HAT
       have HB6 := zaa.mk (HB.out.trans (HB5.out.mono HB.out.size))
       go_wp2_with ((with_reducible refine za6 (N := 50) rfl ?_); refine zfC Value.string (h1c := fun _ => rfl) _ rfl (.tmp 46) (.tmp 49) 56 9 (.string ⟨#[]⟩) 16 rfl Tryd.underlying56 infoS rfl d9 w2.heap.size (fun _ => True) (.slice A j c) ((pz.take j).map (fun x : S48 => x.f0)) p.f0 w6.heap.size 1 ?x1 ?x2 ?aG (show (Kd.scalar Value.string (fun _ => rfl)).R 9 (w6.alloc (Obj.cells #[Value.string p.f0] 9)) w2.heap.size (fun _ => True) (Value.slice A j c) ((pz.take j).map (fun x : S48 => x.f0)) from Kd.zaH HR5.out _) ?aB ?aL ?_; (case aG => exact (zah (at_new w6 _ rfl) 0).trans rfl); (case aB => have := HB6.out.size; simp; omega); (case aL => rw [HNL.out]; omega); (case x1 => rfl); (case x2 => rfl); intro v1 w7 hR7 hg7; obtain ⟨A7, c7, hv7⟩ := Kd.zaR hR7; have hl7 : ((pz.take j).map (fun x : S48 => x.f0) ++ [p.f0]).length = j + 1 := (by rw [List.length_append, HNL.out]; rfl); rw [hl7] at hv7; subst hv7; have HR7 := zaa.mk hR7; have HG7 := zaa.mk hg7; clear hR7 hg7 hl7)
       go_roundw
       case rel =>
        refine ⟨j + 1, A7, c7, by omega, rfl, by go_num, ⟨HAT.out.symm, ?_, ?_⟩⟩
        ·
         rw [HTS.out]; exact Kd.zaz HR7.out (fun _ _ => trivial)
        ·
         have hal : Below w2.heap.size w2 (w6.alloc (.cells #[.string p.f0] 9)) := HB6.out.alloc HB6.out.size _
         refine hal.trans (((Mv.refl (fun k => w2.heap.size ≤ k) _).grown HG7.out (fun k e => .inl ?_)).below hal.size (fun _ h => h))
         exact ((Kd.za0 HR5.out).1 k e).2.1
       case measure => simp [intOf]; omega
     ·
      rw [if_pos hE] at HAT
      rw [if_pos (by rw [HAT.out]; exact hE)] at HF
      go_wp2_with fail
      go_ret
      exact ⟨by rw [HF.out, HAT.out]; rfl, _, ms, HS.out, fun e => by rw [HF.out, HAT.out] at e; exact absurd e hE⟩
   ·
    have hj2 : j = pz.length := by omega
    subst hj2
    have hE0 : E1 = 0 := by rw [← hI, List.drop_length]; rfl
    rw [if_neg (fun h => h hE0)] at HF
    clear hI hR hB g1
    go_wp2_with fail
    have HD := zaa.mk HC.out.drew
    have HGD := zaa.mk (HG.out.below (Below.refl _ _).drew)
    have HVD := zaa.mk (show wr.drew.heap[w.heap.size]? = some (.cells #[.string mn, .slice Ap pz.length cp, .string rs] 51 (0, 0)) from HV.out)
    refine zbq (N := 140) 8 Grows k9 k9 rfl Grows.refl Grows.trans ?_
    rw [show List.range 8 = [0, 1, 2, 3, 4, 5, 6, 7] from rfl]
    refine rgv (.pointer (some ⟨kb, 0, none⟩)) ?_ ?_
    ·
     intro a w' hr hs
     have h0 := hs.ov 0 (.pointer (some ⟨kb, 0, none⟩))
     go_simp
    refine rgv (.pointer (some ⟨kb, 0, none⟩)) ?_ ?_
    ·
     intro a w' hr hs
     have h52 := hs.gv 0 rfl rfl
     go_simp
    refine rgv (.pointer (some ⟨kb, 0, none⟩)) ?_ ?_
    ·
     intro a w' hr hs
     have h53 := hs.gv 0 rfl rfl
     go_simp
    refine rgv (.slice (some ad) t.length c0) ?_ ?_
    ·
     intro a w' hr hs
     have h54 := hs.gv 0 rfl rfl
     have g := (HD.out.below hr).k0
     go_simp
    refine rgv (.pointer (some ⟨w.heap.size, 2, none⟩)) ?_ ?_
    ·
     intro a w' hr hs
     have h3 := hs.ov 3 (.pointer (some ⟨w.heap.size, 0, none⟩))
     go_simp
    refine rgv (.string rs) ?_ ?_
    ·
     intro a w' hr hs
     have h56 := hs.gv 0 rfl rfl
     have g := zah (hr.at HVD.out) 2
     simp only [ga] at g
     go_simp
    refine rgc (fun v _ => v = .int .i64 E3) Tryd.func67 ?_ ?_
    ·
     intro a w' hr hs
     have h55 := hs.gv 2 rfl rfl
     have h57 := hs.gv 0 rfl rfl
     rw [show (#[Operand.tmp 55, Operand.const (.string ⟨#[]⟩), Operand.tmp 57] : Array Operand).map a.eval = #[.slice (some ad) t.length c0, .string ⟨#[]⟩, .string rs] by simp [Act.eval, h55, h57]]
     refine (zcQ (some ad) c0 t ⟨#[]⟩ rs _ (HD.out.below hr).tab HD.out.max d9 hrs (HGD.out.below hr)).mono ?_
     rintro e w3 ⟨rfl, hb⟩
     exact ⟨_, rfl, hb, by rw [HE3.out]⟩
    refine rgv (.int .i64 E3) ?_ ?_
    ·
     intro a w' hr hs
     have h58 := hs.gv 0 rfl rfl
     go_simp
    intro vs w5 hr hE
    have e0 : vs 0 = .pointer (some ⟨kb, 0, none⟩) := hE _ (zaf 7 rfl)
    have e1 : vs 1 = .pointer (some ⟨kb, 0, none⟩) := hE _ (zaf 6 rfl)
    have e2 : vs 2 = .pointer (some ⟨kb, 0, none⟩) := hE _ (zaf 5 rfl)
    have e3 : vs 3 = .slice (some ad) t.length c0 := hE _ (zaf 4 rfl)
    have e4 : vs 4 = .pointer (some ⟨w.heap.size, 2, none⟩) := hE _ (zaf 3 rfl)
    have e5 : vs 5 = .string rs := hE _ (zaf 2 rfl)
    have e6 : vs 6 = .int .i64 E3 := hE _ (zaf 1 rfl)
    have e7 : vs 7 = .int .i64 E3 := hE _ (zaf 0 rfl)
    rw [show List.range 8 = [0, 1, 2, 3, 4, 5, 6, 7] from rfl]
    simp only [ps, ga, pa, e0, e1, e2, e3, e4, e5, e6, e7]
    clear hE e0 e1 e2 e3 e4 e5 e6 e7
    refine zbd ?_
    have hgr : Below wr.heap.size wr w5 := (Below.refl wr.heap.size wr).drew.trans hr
    replace HC := zaa.mk (HC.out.below hgr)
    replace HS := zaa.mk (HS.out.below hgr)
    replace HG := zaa.mk (HG.out.below hgr)
    replace HV := zaa.mk ((hgr.block _ (zam HV.out)).trans HV.out)
    clear HD HGD HVD hr hgr
    by_cases hE : E3 = 0
    ·
     rw [if_neg (fun h => h hE)] at HF
     have hE1 : decide (E3 = 0) = true := by simpa using hE
     subst hE
     go_wp2_with fail
     have HD := zaa.mk HC.out.drew
     have HGD := zaa.mk (HG.out.below (Below.refl _ _).drew)
     have HVD := zaa.mk (show w5.drew.heap[w.heap.size]? = some (.cells #[.string mn, .slice Ap pz.length cp, .string rs] 51 (0, 0)) from HV.out)
     refine zbq (N := 140) 17 Grows k9 k9 rfl Grows.refl Grows.trans ?_
     rw [show List.range 17 = [0, 1, 2, 3, 4, 5, 6, 7, 8, 9, 10, 11, 12, 13, 14, 15, 16] from rfl]
     refine rgv (.pointer (some ⟨kb, 0, none⟩)) ?_ ?_
     ·
      intro a w' hr hs
      have h0 := hs.ov 0 (.pointer (some ⟨kb, 0, none⟩))
      go_simp
     refine rgv (.pointer (some ⟨kb, 0, none⟩)) ?_ ?_
     ·
      intro a w' hr hs
      have h63 := hs.gv 0 rfl rfl
      go_simp
     refine rgv (.pointer (some ⟨kb, 0, none⟩)) ?_ ?_
     ·
      intro a w' hr hs
      have h64 := hs.gv 0 rfl rfl
      go_simp
     refine rgv (.slice (some ad) t.length c0) ?_ ?_
     ·
      intro a w' hr hs
      have h65 := hs.gv 0 rfl rfl
      have g := (HD.out.below hr).k0
      go_simp
     refine rgv (.pointer (some ⟨kb, 0, none⟩)) ?_ ?_
     ·
      intro a w' hr hs
      have h0 := hs.ov 0 (.pointer (some ⟨kb, 0, none⟩))
      go_simp
     refine rgc (fun v _ => v = .pointer (some (ad.add (i * 4)))) Tryd.func43 ?_ ?_
     ·
      intro a w' hr hs
      have h67 := hs.gv 0 rfl rfl
      rw [show (#[Operand.tmp 67] : Array Operand).map a.eval = #[.pointer (some ⟨kb, 0, none⟩)] by simp [Act.eval, h67]]
      refine (zbS kb (some ad) c0 t i (.slice Af fs.length cf) (.slice Am ms.length cm) _ (HD.out.below hr).chk).mono ?_
      rintro e w3 ⟨rfl, hb⟩
      exact ⟨_, rfl, hb, rfl⟩
     refine rgv (.pointer (some (ad.add (i * 4)))) ?_ ?_
     ·
      intro a w' hr hs
      have h68 := hs.gv 0 rfl rfl
      go_simp
     refine rgv (.pointer (some ⟨(ad.add (i * 4)).block, (ad.add (i * 4)).off + 1, none⟩)) ?_ ?_
     ·
      intro a w' hr hs
      have h69 := hs.gv 0 rfl rfl
      go_simp
     refine rgv (.string (clsAt t i).f1) ?_ ?_
     ·
      intro a w' hr hs
      have h70 := hs.gv 0 rfl rfl
      have g := (HD.out.below hr).x1
      go_simp
     refine rgv (.pointer (some ⟨w.heap.size, 0, none⟩)) ?_ ?_
     ·
      intro a w' hr hs
      have h3 := hs.ov 3 (.pointer (some ⟨w.heap.size, 0, none⟩))
      go_simp
     refine rgv (.string mn) ?_ ?_
     ·
      intro a w' hr hs
      have h72 := hs.gv 0 rfl rfl
      have g := zah (hr.at HVD.out) 0
      simp only [ga] at g
      go_simp
     refine rgc (fun v _ => v = .tuple #[.string (zcl t (clsAt t i).f1 mn), .bool (zcw t (clsAt t i).f1 mn)]) Tryd.func37 ?_ ?_
     ·
      intro a w' hr hs
      have h66 := hs.gv 7 rfl rfl
      have h71 := hs.gv 2 rfl rfl
      have h73 := hs.gv 0 rfl rfl
      rw [show (#[Operand.tmp 66, Operand.tmp 71, Operand.tmp 73] : Array Operand).map a.eval = #[.slice (some ad) t.length c0, .string (clsAt t i).f1, .string mn] by simp [Act.eval, h66, h71, h73]]
      refine (zdQ (some ad) c0 t (clsAt t i).f1 mn _ (HD.out.below hr).tab HD.out.max hfd).mono ?_
      rintro e w3 ⟨rfl, hb⟩
      exact ⟨_, rfl, hb, rfl⟩
     refine rgv (.tuple #[.string (zcl t (clsAt t i).f1 mn), .bool (zcw t (clsAt t i).f1 mn)]) ?_ ?_
     ·
      intro a w' hr hs
      have h74 := hs.gv 0 rfl rfl
      go_simp
     refine rgv (.string (zcl t (clsAt t i).f1 mn)) ?_ ?_
     ·
      intro a w' hr hs
      have h62 := hs.gv 0 rfl rfl
      go_simp
     refine rgv (.bool (zcw t (clsAt t i).f1 mn)) ?_ ?_
     ·
      intro a w' hr hs
      have h62 := hs.gv 1 rfl rfl
      go_simp
     refine rgv (.string (zcl t (clsAt t i).f1 mn)) ?_ ?_
     ·
      intro a w' hr hs
      have h75 := hs.gv 1 rfl rfl
      go_simp
     refine rgv (.bool (zcw t (clsAt t i).f1 mn)) ?_ ?_
     ·
      intro a w' hr hs
      have h76 := hs.gv 1 rfl rfl
      go_simp
     intro vs w6 hr hE
     have e0 : vs 0 = .pointer (some ⟨kb, 0, none⟩) := hE _ (zaf 16 rfl)
     have e1 : vs 1 = .pointer (some ⟨kb, 0, none⟩) := hE _ (zaf 15 rfl)
     have e2 : vs 2 = .pointer (some ⟨kb, 0, none⟩) := hE _ (zaf 14 rfl)
     have e3 : vs 3 = .slice (some ad) t.length c0 := hE _ (zaf 13 rfl)
     have e4 : vs 4 = .pointer (some ⟨kb, 0, none⟩) := hE _ (zaf 12 rfl)
     have e5 : vs 5 = .pointer (some (ad.add (i * 4))) := hE _ (zaf 11 rfl)
     have e6 : vs 6 = .pointer (some (ad.add (i * 4))) := hE _ (zaf 10 rfl)
     have e7 : vs 7 = .pointer (some ⟨(ad.add (i * 4)).block, (ad.add (i * 4)).off + 1, none⟩) := hE _ (zaf 9 rfl)
     have e8 : vs 8 = .string (clsAt t i).f1 := hE _ (zaf 8 rfl)
     have e9 : vs 9 = .pointer (some ⟨w.heap.size, 0, none⟩) := hE _ (zaf 7 rfl)
     have e10 : vs 10 = .string mn := hE _ (zaf 6 rfl)
     have e11 : vs 11 = .tuple #[.string (zcl t (clsAt t i).f1 mn), .bool (zcw t (clsAt t i).f1 mn)] := hE _ (zaf 5 rfl)
     have e12 : vs 12 = .tuple #[.string (zcl t (clsAt t i).f1 mn), .bool (zcw t (clsAt t i).f1 mn)] := hE _ (zaf 4 rfl)
     have e13 : vs 13 = .string (zcl t (clsAt t i).f1 mn) := hE _ (zaf 3 rfl)
     have e14 : vs 14 = .bool (zcw t (clsAt t i).f1 mn) := hE _ (zaf 2 rfl)
     have e15 : vs 15 = .string (zcl t (clsAt t i).f1 mn) := hE _ (zaf 1 rfl)
     have e16 : vs 16 = .bool (zcw t (clsAt t i).f1 mn) := hE _ (zaf 0 rfl)
     rw [show List.range 17 = [0, 1, 2, 3, 4, 5, 6, 7, 8, 9, 10, 11, 12, 13, 14, 15, 16] from rfl]
     simp only [ps, ga, pa, e0, e1, e2, e3, e4, e5, e6, e7, e8, e9, e10, e11, e12, e13, e14, e15, e16]
     clear hE e0 e1 e2 e3 e4 e5 e6 e7 e8 e9 e10 e11 e12 e13 e14 e15 e16
     refine zbd ?_
     have hgr : Below w5.heap.size w5 w6 := (Below.refl w5.heap.size w5).drew.trans hr
     replace HC := zaa.mk (HC.out.below hgr)
     replace HS := zaa.mk (HS.out.below hgr)
     replace HG := zaa.mk (HG.out.below hgr)
     replace HV := zaa.mk ((hgr.block _ (zam HV.out)).trans HV.out)
     clear HD HGD HVD hr hgr
     have HFC := zaa.mk (show Kd.C Kd.string w6.drew Af fs.length fs from by
      obtain ⟨A', c', e', _, h⟩ := Kd.zbB HS.out.fR
      cases e'
      exact Kd.zay h (Below.refl w6.heap.size w6).drew)
     have HMC := zaa.mk (show Kd.C Kd.string w6.drew Am ms.length ms from by
      obtain ⟨A', c', e', _, h⟩ := Kd.zbB HS.out.mR
      cases e'
      exact Kd.zay h (Below.refl w6.heap.size w6).drew)
     obtain ⟨b1, hb1⟩ : ∃ b1, b1 = zcw t (clsAt t i).f1 mn := ⟨_, rfl⟩
     obtain ⟨b2, hb2⟩ : ∃ b2, b2 = hasN mn fs := ⟨_, rfl⟩
     have HFN := zaa.mk hb2.symm
     rw [← hb1] at HF ⊢
     rw [← hb2] at HF
     clear hb1 hb2
     cases b1 with
     | true =>
      rw [if_pos (.inl rfl)] at HF
      go_wp2_with fail
      have HD := zaa.mk HC.out.drew
      have HGD := zaa.mk (HG.out.below (Below.refl _ _).drew)
      have HVD := zaa.mk (show w6.drew.heap[w.heap.size]? = some (.cells #[.string mn, .slice Ap pz.length cp, .string rs] 51 (0, 0)) from HV.out)
      refine zbq (N := 140) 19 Grows k9 k9 rfl Grows.refl Grows.trans ?_
      rw [show List.range 19 = [0, 1, 2, 3, 4, 5, 6, 7, 8, 9, 10, 11, 12, 13, 14, 15, 16, 17, 18] from rfl]
      refine rgv (.bool true) ?_ ?_
      ·
       intro a w' hr hs
       have h11 := hs.ov 11 (.bool true)
       go_simp
      refine rgv (.bool true) ?_ ?_
      ·
       intro a w' hr hs
       have h77 := hs.gv 0 rfl rfl
       go_simp
      refine zby rfl (fun a w hr hs => (za3 (g := 1) (t := 78) (b' := true) rfl rfl (hs.gv 0 rfl rfl)).trans rfl) ?_
      refine zby rfl (fun a w hr hs => (za3 (g := 1) (t := 78) (b' := true) rfl rfl (hs.gv 1 rfl rfl)).trans rfl) ?_
      refine zby rfl (fun a w hr hs => (za3 (g := 1) (t := 78) (b' := true) rfl rfl (hs.gv 2 rfl rfl)).trans rfl) ?_
      refine zby rfl (fun a w hr hs => (za3 (g := 1) (t := 78) (b' := true) rfl rfl (hs.gv 3 rfl rfl)).trans rfl) ?_
      refine zby rfl (fun a w hr hs => (za3 (g := 1) (t := 78) (b' := true) rfl rfl (hs.gv 4 rfl rfl)).trans rfl) ?_
      refine zby rfl (fun a w hr hs => (za3 (g := 1) (t := 78) (b' := true) rfl rfl (hs.gv 5 rfl rfl)).trans rfl) ?_
      refine zby rfl (fun a w hr hs => (za3 (g := 1) (t := 78) (b' := true) rfl rfl (hs.gv 6 rfl rfl)).trans rfl) ?_
      refine rgv (.bool true) ?_ ?_
      ·
       intro a w' hr hs
       have h78 := hs.gv 7 rfl rfl
       have h85 := hs.gv 0 rfl rfl
       go_simp
      refine rgv (.bool true) ?_ ?_
      ·
       intro a w' hr hs
       have h86 := hs.gv 0 rfl rfl
       go_simp
      refine zby rfl (fun a w hr hs => (za3 (g := 10) (t := 87) (b' := true) rfl rfl (hs.gv 0 rfl rfl)).trans rfl) ?_
      refine zby rfl (fun a w hr hs => (za3 (g := 10) (t := 87) (b' := true) rfl rfl (hs.gv 1 rfl rfl)).trans rfl) ?_
      refine zby rfl (fun a w hr hs => (za3 (g := 10) (t := 87) (b' := true) rfl rfl (hs.gv 2 rfl rfl)).trans rfl) ?_
      refine zby rfl (fun a w hr hs => (za3 (g := 10) (t := 87) (b' := true) rfl rfl (hs.gv 3 rfl rfl)).trans rfl) ?_
      refine zby rfl (fun a w hr hs => (za3 (g := 10) (t := 87) (b' := true) rfl rfl (hs.gv 4 rfl rfl)).trans rfl) ?_
      refine zby rfl (fun a w hr hs => (za3 (g := 10) (t := 87) (b' := true) rfl rfl (hs.gv 5 rfl rfl)).trans rfl) ?_
      refine zby rfl (fun a w hr hs => (za3 (g := 10) (t := 87) (b' := true) rfl rfl (hs.gv 6 rfl rfl)).trans rfl) ?_
      refine rgv (.bool true) ?_ ?_
      ·
       intro a w' hr hs
       have h87 := hs.gv 7 rfl rfl
       have h94 := hs.gv 0 rfl rfl
       go_simp
      intro vs w7 hr hE
      have e0 : vs 0 = .bool true := hE _ (zaf 18 rfl)
      have e1 : vs 1 = .bool true := hE _ (zaf 17 rfl)
      have e2 : vs 2 = undef := hE _ (zaf 16 rfl)
      have e3 : vs 3 = undef := hE _ (zaf 15 rfl)
      have e4 : vs 4 = undef := hE _ (zaf 14 rfl)
      have e5 : vs 5 = undef := hE _ (zaf 13 rfl)
      have e6 : vs 6 = undef := hE _ (zaf 12 rfl)
      have e7 : vs 7 = undef := hE _ (zaf 11 rfl)
      have e8 : vs 8 = undef := hE _ (zaf 10 rfl)
      have e9 : vs 9 = .bool true := hE _ (zaf 9 rfl)
      have e10 : vs 10 = .bool true := hE _ (zaf 8 rfl)
      have e11 : vs 11 = undef := hE _ (zaf 7 rfl)
      have e12 : vs 12 = undef := hE _ (zaf 6 rfl)
      have e13 : vs 13 = undef := hE _ (zaf 5 rfl)
      have e14 : vs 14 = undef := hE _ (zaf 4 rfl)
      have e15 : vs 15 = undef := hE _ (zaf 3 rfl)
      have e16 : vs 16 = undef := hE _ (zaf 2 rfl)
      have e17 : vs 17 = undef := hE _ (zaf 1 rfl)
      have e18 : vs 18 = .bool true := hE _ (zaf 0 rfl)
      rw [show List.range 19 = [0, 1, 2, 3, 4, 5, 6, 7, 8, 9, 10, 11, 12, 13, 14, 15, 16, 17, 18] from rfl]
      simp only [ps, ga, pa, e0, e1, e2, e3, e4, e5, e6, e7, e8, e9, e10, e11, e12, e13, e14, e15, e16, e17, e18]
      clear hE e0 e1 e2 e3 e4 e5 e6 e7 e8 e9 e10 e11 e12 e13 e14 e15 e16 e17 e18
      refine zbd ?_
      have hgr : Below w6.heap.size w6 w7 := (Below.refl w6.heap.size w6).drew.trans hr
      replace HC := zaa.mk (HC.out.below hgr)
      replace HS := zaa.mk (HS.out.below hgr)
      replace HG := zaa.mk (HG.out.below hgr)
      replace HV := zaa.mk ((hgr.block _ (zam HV.out)).trans HV.out)
      clear HD HGD HVD hr hgr
      go_wp2_with fail
      go_ret
      exact ⟨by rw [HF.out]; rfl, _, ms, HS.out, fun e => by rw [HF.out] at e; cases e⟩
     | false =>
      cases b2 with
      | true =>
       rw [if_pos (.inr (.inl rfl))] at HF
       go_wp2_with fail
       have HD := zaa.mk HC.out.drew
       have HGD := zaa.mk (HG.out.below (Below.refl _ _).drew)
       have HVD := zaa.mk (show w6.drew.heap[w.heap.size]? = some (.cells #[.string mn, .slice Ap pz.length cp, .string rs] 51 (0, 0)) from HV.out)
       refine zbq (N := 140) 19 Grows k9 k9 rfl Grows.refl Grows.trans ?_
       rw [show List.range 19 = [0, 1, 2, 3, 4, 5, 6, 7, 8, 9, 10, 11, 12, 13, 14, 15, 16, 17, 18] from rfl]
       refine rgv (.bool false) ?_ ?_
       ·
        intro a w' hr hs
        have h11 := hs.ov 11 (.bool false)
        go_simp
       refine rgv (.bool false) ?_ ?_
       ·
        intro a w' hr hs
        have h77 := hs.gv 0 rfl rfl
        go_simp
       refine zbl (.pointer (some ⟨kb, 0, none⟩)) Grows.refl rfl (fun a w hr hs => za2 (g := 1) (t := 78) rfl rfl (hs.gv 0 rfl rfl)) ?_ ?_
       ·
        intro a w' hr hs
        have h0 := hs.ov 0 (.pointer (some ⟨kb, 0, none⟩))
        go_simp
       refine zbl (.pointer (some ⟨kb, 0, none⟩)) Grows.refl rfl (fun a w hr hs => za2 (g := 1) (t := 78) rfl rfl (hs.gv 1 rfl rfl)) ?_ ?_
       ·
        intro a w' hr hs
        have h79 := hs.gv 0 rfl rfl
        go_simp
       refine zbl (.pointer (some ⟨kb, 2, none⟩)) Grows.refl rfl (fun a w hr hs => za2 (g := 1) (t := 78) rfl rfl (hs.gv 2 rfl rfl)) ?_ ?_
       ·
        intro a w' hr hs
        have h80 := hs.gv 0 rfl rfl
        go_simp
       refine zbl (.slice Af fs.length cf) Grows.refl rfl (fun a w hr hs => za2 (g := 1) (t := 78) rfl rfl (hs.gv 3 rfl rfl)) ?_ ?_
       ·
        intro a w' hr hs
        have h81 := hs.gv 0 rfl rfl
        have g := (HD.out.below hr).k2
        go_simp
       refine zbl (.pointer (some ⟨w.heap.size, 0, none⟩)) Grows.refl rfl (fun a w hr hs => za2 (g := 1) (t := 78) rfl rfl (hs.gv 4 rfl rfl)) ?_ ?_
       ·
        intro a w' hr hs
        have h3 := hs.ov 3 (.pointer (some ⟨w.heap.size, 0, none⟩))
        go_simp
       refine zbl (.string mn) Grows.refl rfl (fun a w hr hs => za2 (g := 1) (t := 78) rfl rfl (hs.gv 5 rfl rfl)) ?_ ?_
       ·
        intro a w' hr hs
        have h83 := hs.gv 0 rfl rfl
        have g := zah (hr.at HVD.out) 0
        simp only [ga] at g
        go_simp
       refine zdN (fun v _ => v = .bool true) (fun _ _ _ _ h => h) rfl rfl Tryd.func33 k9 rfl (fun a w hr hs => za2 (g := 1) (t := 78) rfl rfl (hs.gv 6 rfl rfl)) ?_ ?_
       ·
        intro a w' hr hs
        have h82 := hs.gv 2 rfl rfl
        have h84 := hs.gv 0 rfl rfl
        rw [show (#[Operand.tmp 82, Operand.tmp 84] : Array Operand).map a.eval = #[.slice Af fs.length cf, .string mn] by simp [Act.eval, h82, h84]]
        refine (zbk Af cf fs mn _ (Kd.zay HFC.out hr) o9).mono ?_
        rintro e w3 ⟨rfl, rfl⟩
        exact ⟨_, rfl, Grows.refl _, by rw [HFN.out]⟩
       refine rgv (.bool true) ?_ ?_
       ·
        intro a w' hr hs
        have h78 := hs.gv 7 rfl rfl
        have h85 := hs.gv 0 rfl rfl
        go_simp
       refine rgv (.bool true) ?_ ?_
       ·
        intro a w' hr hs
        have h86 := hs.gv 0 rfl rfl
        go_simp
       refine zby rfl (fun a w hr hs => (za3 (g := 10) (t := 87) (b' := true) rfl rfl (hs.gv 0 rfl rfl)).trans rfl) ?_
       refine zby rfl (fun a w hr hs => (za3 (g := 10) (t := 87) (b' := true) rfl rfl (hs.gv 1 rfl rfl)).trans rfl) ?_
       refine zby rfl (fun a w hr hs => (za3 (g := 10) (t := 87) (b' := true) rfl rfl (hs.gv 2 rfl rfl)).trans rfl) ?_
       refine zby rfl (fun a w hr hs => (za3 (g := 10) (t := 87) (b' := true) rfl rfl (hs.gv 3 rfl rfl)).trans rfl) ?_
       refine zby rfl (fun a w hr hs => (za3 (g := 10) (t := 87) (b' := true) rfl rfl (hs.gv 4 rfl rfl)).trans rfl) ?_
       refine zby rfl (fun a w hr hs => (za3 (g := 10) (t := 87) (b' := true) rfl rfl (hs.gv 5 rfl rfl)).trans rfl) ?_
       refine zby rfl (fun a w hr hs => (za3 (g := 10) (t := 87) (b' := true) rfl rfl (hs.gv 6 rfl rfl)).trans rfl) ?_
       refine rgv (.bool true) ?_ ?_
       ·
        intro a w' hr hs
        have h87 := hs.gv 7 rfl rfl
        have h94 := hs.gv 0 rfl rfl
        go_simp
       intro vs w7 hr hE
       have e0 : vs 0 = .bool false := hE _ (zaf 18 rfl)
       have e1 : vs 1 = .bool false := hE _ (zaf 17 rfl)
       have e2 : vs 2 = .pointer (some ⟨kb, 0, none⟩) := hE _ (zaf 16 rfl)
       have e3 : vs 3 = .pointer (some ⟨kb, 0, none⟩) := hE _ (zaf 15 rfl)
       have e4 : vs 4 = .pointer (some ⟨kb, 2, none⟩) := hE _ (zaf 14 rfl)
       have e5 : vs 5 = .slice Af fs.length cf := hE _ (zaf 13 rfl)
       have e6 : vs 6 = .pointer (some ⟨w.heap.size, 0, none⟩) := hE _ (zaf 12 rfl)
       have e7 : vs 7 = .string mn := hE _ (zaf 11 rfl)
       have e8 : vs 8 = .bool true := hE _ (zaf 10 rfl)
       have e9 : vs 9 = .bool true := hE _ (zaf 9 rfl)
       have e10 : vs 10 = .bool true := hE _ (zaf 8 rfl)
       have e11 : vs 11 = undef := hE _ (zaf 7 rfl)
       have e12 : vs 12 = undef := hE _ (zaf 6 rfl)
       have e13 : vs 13 = undef := hE _ (zaf 5 rfl)
       have e14 : vs 14 = undef := hE _ (zaf 4 rfl)
       have e15 : vs 15 = undef := hE _ (zaf 3 rfl)
       have e16 : vs 16 = undef := hE _ (zaf 2 rfl)
       have e17 : vs 17 = undef := hE _ (zaf 1 rfl)
       have e18 : vs 18 = .bool true := hE _ (zaf 0 rfl)
       rw [show List.range 19 = [0, 1, 2, 3, 4, 5, 6, 7, 8, 9, 10, 11, 12, 13, 14, 15, 16, 17, 18] from rfl]
       simp only [ps, ga, pa, e0, e1, e2, e3, e4, e5, e6, e7, e8, e9, e10, e11, e12, e13, e14, e15, e16, e17, e18]
       clear hE e0 e1 e2 e3 e4 e5 e6 e7 e8 e9 e10 e11 e12 e13 e14 e15 e16 e17 e18
       refine zbd ?_
       have hgr : Below w6.heap.size w6 w7 := (Below.refl w6.heap.size w6).drew.trans hr
       replace HC := zaa.mk (HC.out.below hgr)
       replace HS := zaa.mk (HS.out.below hgr)
       replace HG := zaa.mk (HG.out.below hgr)
       replace HV := zaa.mk ((hgr.block _ (zam HV.out)).trans HV.out)
       clear HD HGD HVD hr hgr
       go_wp2_with fail
       go_ret
       exact ⟨by rw [HF.out]; rfl, _, ms, HS.out, fun e => by rw [HF.out] at e; cases e⟩
      | false =>
       go_wp2_with fail
       have HD := zaa.mk HC.out.drew
       have HGD := zaa.mk (HG.out.below (Below.refl _ _).drew)
       have HVD := zaa.mk (show w6.drew.heap[w.heap.size]? = some (.cells #[.string mn, .slice Ap pz.length cp, .string rs] 51 (0, 0)) from HV.out)
       refine zbq (N := 140) 19 Grows k9 k9 rfl Grows.refl Grows.trans ?_
       rw [show List.range 19 = [0, 1, 2, 3, 4, 5, 6, 7, 8, 9, 10, 11, 12, 13, 14, 15, 16, 17, 18] from rfl]
       refine rgv (.bool false) ?_ ?_
       ·
        intro a w' hr hs
        have h11 := hs.ov 11 (.bool false)
        go_simp
       refine rgv (.bool false) ?_ ?_
       ·
        intro a w' hr hs
        have h77 := hs.gv 0 rfl rfl
        go_simp
       refine zbl (.pointer (some ⟨kb, 0, none⟩)) Grows.refl rfl (fun a w hr hs => za2 (g := 1) (t := 78) rfl rfl (hs.gv 0 rfl rfl)) ?_ ?_
       ·
        intro a w' hr hs
        have h0 := hs.ov 0 (.pointer (some ⟨kb, 0, none⟩))
        go_simp
       refine zbl (.pointer (some ⟨kb, 0, none⟩)) Grows.refl rfl (fun a w hr hs => za2 (g := 1) (t := 78) rfl rfl (hs.gv 1 rfl rfl)) ?_ ?_
       ·
        intro a w' hr hs
        have h79 := hs.gv 0 rfl rfl
        go_simp
       refine zbl (.pointer (some ⟨kb, 2, none⟩)) Grows.refl rfl (fun a w hr hs => za2 (g := 1) (t := 78) rfl rfl (hs.gv 2 rfl rfl)) ?_ ?_
       ·
        intro a w' hr hs
        have h80 := hs.gv 0 rfl rfl
        go_simp
       refine zbl (.slice Af fs.length cf) Grows.refl rfl (fun a w hr hs => za2 (g := 1) (t := 78) rfl rfl (hs.gv 3 rfl rfl)) ?_ ?_
       ·
        intro a w' hr hs
        have h81 := hs.gv 0 rfl rfl
        have g := (HD.out.below hr).k2
        go_simp
       refine zbl (.pointer (some ⟨w.heap.size, 0, none⟩)) Grows.refl rfl (fun a w hr hs => za2 (g := 1) (t := 78) rfl rfl (hs.gv 4 rfl rfl)) ?_ ?_
       ·
        intro a w' hr hs
        have h3 := hs.ov 3 (.pointer (some ⟨w.heap.size, 0, none⟩))
        go_simp
       refine zbl (.string mn) Grows.refl rfl (fun a w hr hs => za2 (g := 1) (t := 78) rfl rfl (hs.gv 5 rfl rfl)) ?_ ?_
       ·
        intro a w' hr hs
        have h83 := hs.gv 0 rfl rfl
        have g := zah (hr.at HVD.out) 0
        simp only [ga] at g
        go_simp
       refine zdN (fun v _ => v = .bool false) (fun _ _ _ _ h => h) rfl rfl Tryd.func33 k9 rfl (fun a w hr hs => za2 (g := 1) (t := 78) rfl rfl (hs.gv 6 rfl rfl)) ?_ ?_
       ·
        intro a w' hr hs
        have h82 := hs.gv 2 rfl rfl
        have h84 := hs.gv 0 rfl rfl
        rw [show (#[Operand.tmp 82, Operand.tmp 84] : Array Operand).map a.eval = #[.slice Af fs.length cf, .string mn] by simp [Act.eval, h82, h84]]
        refine (zbk Af cf fs mn _ (Kd.zay HFC.out hr) o9).mono ?_
        rintro e w3 ⟨rfl, rfl⟩
        exact ⟨_, rfl, Grows.refl _, by rw [HFN.out]⟩
       refine rgv (.bool false) ?_ ?_
       ·
        intro a w' hr hs
        have h78 := hs.gv 7 rfl rfl
        have h85 := hs.gv 0 rfl rfl
        go_simp
       refine rgv (.bool false) ?_ ?_
       ·
        intro a w' hr hs
        have h86 := hs.gv 0 rfl rfl
        go_simp
       refine zbl (.pointer (some ⟨kb, 0, none⟩)) Grows.refl rfl (fun a w hr hs => za2 (g := 10) (t := 87) rfl rfl (hs.gv 0 rfl rfl)) ?_ ?_
       ·
        intro a w' hr hs
        have h0 := hs.ov 0 (.pointer (some ⟨kb, 0, none⟩))
        go_simp
       refine zbl (.pointer (some ⟨kb, 0, none⟩)) Grows.refl rfl (fun a w hr hs => za2 (g := 10) (t := 87) rfl rfl (hs.gv 1 rfl rfl)) ?_ ?_
       ·
        intro a w' hr hs
        have h88 := hs.gv 0 rfl rfl
        go_simp
       refine zbl (.pointer (some ⟨kb, 3, none⟩)) Grows.refl rfl (fun a w hr hs => za2 (g := 10) (t := 87) rfl rfl (hs.gv 2 rfl rfl)) ?_ ?_
       ·
        intro a w' hr hs
        have h89 := hs.gv 0 rfl rfl
        go_simp
       refine zbl (.slice Am ms.length cm) Grows.refl rfl (fun a w hr hs => za2 (g := 10) (t := 87) rfl rfl (hs.gv 3 rfl rfl)) ?_ ?_
       ·
        intro a w' hr hs
        have h90 := hs.gv 0 rfl rfl
        have g := (HD.out.below hr).k3
        go_simp
       refine zbl (.pointer (some ⟨w.heap.size, 0, none⟩)) Grows.refl rfl (fun a w hr hs => za2 (g := 10) (t := 87) rfl rfl (hs.gv 4 rfl rfl)) ?_ ?_
       ·
        intro a w' hr hs
        have h3 := hs.ov 3 (.pointer (some ⟨w.heap.size, 0, none⟩))
        go_simp
       refine zbl (.string mn) Grows.refl rfl (fun a w hr hs => za2 (g := 10) (t := 87) rfl rfl (hs.gv 5 rfl rfl)) ?_ ?_
       ·
        intro a w' hr hs
        have h92 := hs.gv 0 rfl rfl
        have g := zah (hr.at HVD.out) 0
        simp only [ga] at g
        go_simp
       refine zdN (fun v _ => v = .bool (hasN mn ms)) (fun _ _ _ _ h => h) rfl rfl Tryd.func33 k9 rfl (fun a w hr hs => za2 (g := 10) (t := 87) rfl rfl (hs.gv 6 rfl rfl)) ?_ ?_
       ·
        intro a w' hr hs
        have h91 := hs.gv 2 rfl rfl
        have h93 := hs.gv 0 rfl rfl
        rw [show (#[Operand.tmp 91, Operand.tmp 93] : Array Operand).map a.eval = #[.slice Am ms.length cm, .string mn] by simp [Act.eval, h91, h93]]
        refine (zbk Am cm ms mn _ (Kd.zay HMC.out hr) o9).mono ?_
        rintro e w3 ⟨rfl, rfl⟩
        exact ⟨_, rfl, Grows.refl _, rfl⟩
       refine rgv (.bool (hasN mn ms)) ?_ ?_
       ·
        intro a w' hr hs
        have h87 := hs.gv 7 rfl rfl
        have h94 := hs.gv 0 rfl rfl
        go_simp
       intro vs w7 hr hE
       have e0 : vs 0 = .bool false := hE _ (zaf 18 rfl)
       have e1 : vs 1 = .bool false := hE _ (zaf 17 rfl)
       have e2 : vs 2 = .pointer (some ⟨kb, 0, none⟩) := hE _ (zaf 16 rfl)
       have e3 : vs 3 = .pointer (some ⟨kb, 0, none⟩) := hE _ (zaf 15 rfl)
       have e4 : vs 4 = .pointer (some ⟨kb, 2, none⟩) := hE _ (zaf 14 rfl)
       have e5 : vs 5 = .slice Af fs.length cf := hE _ (zaf 13 rfl)
       have e6 : vs 6 = .pointer (some ⟨w.heap.size, 0, none⟩) := hE _ (zaf 12 rfl)
       have e7 : vs 7 = .string mn := hE _ (zaf 11 rfl)
       have e8 : vs 8 = .bool false := hE _ (zaf 10 rfl)
       have e9 : vs 9 = .bool false := hE _ (zaf 9 rfl)
       have e10 : vs 10 = .bool false := hE _ (zaf 8 rfl)
       have e11 : vs 11 = .pointer (some ⟨kb, 0, none⟩) := hE _ (zaf 7 rfl)
       have e12 : vs 12 = .pointer (some ⟨kb, 0, none⟩) := hE _ (zaf 6 rfl)
       have e13 : vs 13 = .pointer (some ⟨kb, 3, none⟩) := hE _ (zaf 5 rfl)
       have e14 : vs 14 = .slice Am ms.length cm := hE _ (zaf 4 rfl)
       have e15 : vs 15 = .pointer (some ⟨w.heap.size, 0, none⟩) := hE _ (zaf 3 rfl)
       have e16 : vs 16 = .string mn := hE _ (zaf 2 rfl)
       have e17 : vs 17 = .bool (hasN mn ms) := hE _ (zaf 1 rfl)
       have e18 : vs 18 = .bool (hasN mn ms) := hE _ (zaf 0 rfl)
       rw [show List.range 19 = [0, 1, 2, 3, 4, 5, 6, 7, 8, 9, 10, 11, 12, 13, 14, 15, 16, 17, 18] from rfl]
       simp only [ps, ga, pa, e0, e1, e2, e3, e4, e5, e6, e7, e8, e9, e10, e11, e12, e13, e14, e15, e16, e17, e18]
       clear hE e0 e1 e2 e3 e4 e5 e6 e7 e8 e9 e10 e11 e12 e13 e14 e15 e16 e17 e18
       refine zbd ?_
       have hgr : Below w6.heap.size w6 w7 := (Below.refl w6.heap.size w6).drew.trans hr
       replace HC := zaa.mk (HC.out.below hgr)
       replace HS := zaa.mk (HS.out.below hgr)
       replace HG := zaa.mk (HG.out.below hgr)
       replace HV := zaa.mk ((hgr.block _ (zam HV.out)).trans HV.out)
       clear HD HGD HVD hr hgr
       obtain ⟨b3, hb3⟩ : ∃ b3, b3 = hasN mn ms := ⟨_, rfl⟩
       rw [← hb3] at HF ⊢
       clear hb3 HFC HMC HFN
       cases b3 with
       | true =>
        rw [if_pos (.inr (.inr rfl))] at HF
        go_wp2_with fail
        go_ret
        exact ⟨by rw [HF.out]; rfl, _, ms, HS.out, fun e => by rw [HF.out] at e; cases e⟩
       | false =>
        rw [if_neg s9] at HF
        go_wp2_with fail
        have hfR := HS.out.mR
        have hown := Kd.zcc hfR
        obtain ⟨row, hrow⟩ : ∃ row, row = (Value.slice Am ms.length cm).ownBlock := ⟨_, rfl⟩
        have hrl : ∀ k, some k = row → k < w7.heap.size ∧ w0.heap.size ≤ k := fun k hk => by have := (Kd.za0 hfR).1 k (by rw [← hrow]; exact hk.symm); exact ⟨this.2.2.1, this.2.1⟩
        have hkne : ¬ some kb = row := by rw [hrow]; exact Kd.R_ne hfR HS.out.at_ d9
        have hvne : ¬ some w.heap.size = row := by rw [hrow]; exact Kd.R_ne hfR HV.out d9
        have hR0 : Kd.string.R 9 w7.drew w0.heap.size (fun k => some k = row ∧ some k ≠ (Value.slice Af fs.length cf).ownBlock) (.slice Am ms.length cm) ms := Kd.zaY (Kd.zca hown (fun k hk => ⟨by rw [hrow]; exact hk.symm, hfR.1 k hk⟩)) (Below.refl w7.heap.size w7).drew
        have HR0 := zaa.mk hR0
        have HKD := zaa.mk (show w7.drew.heap[kb]? = _ from HS.out.at_)
        have HVD := zaa.mk (show w7.drew.heap[w.heap.size]? = _ from HV.out)
        have HRL := zaa.mk hrl
        have HKN := zaa.mk hkne
        have HVN := zaa.mk hvne
        have HBS := zaa.mk HS.out.bl.size
        clear hfR hown hrl hkne hvne hR0
        refine zdM (N := 140) 11 (fun i A B => (i = 8 → Grows A B) ∧ (¬ i = 8 → Mv (fun k => some k = row) A B)) (fun i A B => (i = 8 → Mv (fun k => some k = row) A B) ∧ (¬ i = 8 → Grows A B)) k9 k9 rfl (fun _ => ⟨fun _ => Grows.refl _, fun _ => Mv.refl _ _⟩) (fun _ _ => ⟨fun _ => Mv.refl _ _, fun _ => Grows.refl _⟩) (fun {i j A B C} hij h1 h2 => ⟨fun hj => (h1.1 hj).trans (h2.2 (fun e => hij (e.trans hj.symm))), fun hj => (h1.2 hj).trans (by by_cases hi : i = 8; exact h2.1 hi; exact Mv.zbN (h2.2 hi) _)⟩) ?_
        rw [show List.range 11 = [0, 1, 2, 3, 4, 5, 6, 7, 8, 9, 10] from rfl]
        refine zbr (.pointer (some ⟨kb, 0, none⟩)) (fun _ => ⟨fun _ => Mv.refl _ _, fun _ => Grows.refl _⟩) ?_ ?_
        ·
         intro vs a w' hr hs
         have h0 := hs.ov 0 (.pointer (some ⟨kb, 0, none⟩))
         go_simp
        refine zbr (.pointer (some ⟨kb, 0, none⟩)) (fun _ => ⟨fun _ => Mv.refl _ _, fun _ => Grows.refl _⟩) ?_ ?_
        ·
         intro vs a w' hr hs
         have h0 := hs.ov 0 (.pointer (some ⟨kb, 0, none⟩))
         go_simp
        refine zbr (.pointer (some ⟨kb, 0, none⟩)) (fun _ => ⟨fun _ => Mv.refl _ _, fun _ => Grows.refl _⟩) ?_ ?_
        ·
         intro vs a w' hr hs
         have h0 := hs.gv 0 rfl rfl
         go_simp
        refine zbr (.pointer (some ⟨kb, 3, none⟩)) (fun _ => ⟨fun _ => Mv.refl _ _, fun _ => Grows.refl _⟩) ?_ ?_
        ·
         intro vs a w' hr hs
         have h0 := hs.gv 0 rfl rfl
         go_simp
        refine zbr (.slice Am ms.length cm) (fun _ => ⟨fun _ => Mv.refl _ _, fun _ => Grows.refl _⟩) ?_ ?_
        ·
         intro vs a w' hr hs
         have h0 := hs.gv 0 rfl rfl
         have g := zah ((hr.2 d9).at HKD.out HKN.out) 3
         simp only [ga] at g
         go_simp
        refine zbr (.pointer (some ⟨w.heap.size, 0, none⟩)) (fun _ => ⟨fun _ => Mv.refl _ _, fun _ => Grows.refl _⟩) ?_ ?_
        ·
         intro vs a w' hr hs
         have h0 := hs.ov 3 (.pointer (some ⟨w.heap.size, 0, none⟩))
         go_simp
        refine zbr (.string mn) (fun _ => ⟨fun _ => Mv.refl _ _, fun _ => Grows.refl _⟩) ?_ ?_
        ·
         intro vs a w' hr hs
         have h0 := hs.gv 0 rfl rfl
         have g := zah ((hr.2 d9).at HVD.out HVN.out) 0
         simp only [ga] at g
         go_simp
        refine zcN (fun v W' => ∃ b, v = .slice (some ⟨b, 0, none⟩) 1 1 ∧ W'.heap[b]? = some (.cells #[.string mn] 9 (0, 0)) ∧ w7.heap.size ≤ b) (fun j hj v A B hg h => by obtain ⟨b, q1, q2, q3⟩ := h; refine ⟨b, q1, ?_, q3⟩; by_cases hj8 : j = 8; exact (hg.1 hj8).at q2 (fun e => by have := (HRL.out b e).1; omega); exact (hg.2 hj8).at q2) rfl (fun _ _ _ _ _ => zax rfl) ?_ ?_
        ·
         intro vs a w' hr hs
         have h0 := hs.gv 0 rfl rfl
         refine ⟨.slice (some ⟨w'.heap.size, 0, none⟩) 1 1, w'.alloc (.cells #[.string mn] 9), ?_, ⟨fun e => absurd e d9, fun _ => Grows.alloc _ _⟩, _, rfl, at_new _ _ rfl, (hr.2 d9).size⟩
         go_simp
        refine zcN (fun v W' => Kd.string.R 9 W' w0.heap.size (fun k => (some k = row ∧ some k ≠ (Value.slice Af fs.length cf).ownBlock) ∨ w7.heap.size ≤ k) v (ms ++ [mn])) (fun j hj v A B hg h => Kd.zaY h (hg.2 hj)) rfl (fun _ _ _ _ _ => zax rfl) ?_ ?_
        ·
         intro vs a w' hr hs
         have h0 := hs.gv 3 rfl rfl
         obtain ⟨b, q1, q2, q3⟩ := hs.get 0 rfl k9 rfl
         have hgr : Grows w7.drew w' := hr.1 rfl
         refine zfe (a := a) (s := .tmp 100) (x := .tmp 103) Value.string (h1c := fun _ => rfl) w' rfl Tryd.underlying56 infoS rfl d9 w0.heap.size _ (.slice Am ms.length cm) ms mn b 1 (by simpa [Act.eval] using h0) (by simpa [Act.eval] using q1) ((zah q2 0).trans rfl) (Kd.zaY HR0.out hgr) (Nat.le_trans HBS.out hgr.size) o9 ?_
         intro v1 W1 hR1 hg1
         rw [← hrow] at hg1
         exact ⟨⟨fun _ => (Mv.refl _ _).grown hg1 (fun k e => .inl e.symm), fun e => absurd rfl e⟩, Kd.zaz hR1 (fun k hk => hk.imp id (fun h => Nat.le_trans hgr.size h))⟩
        refine zbr (.pointer (some ⟨kb, 0, none⟩)) (fun _ => ⟨fun _ => Mv.refl _ _, fun _ => Grows.refl _⟩) ?_ ?_
        ·
         intro vs a w' hr hs
         have h0 := hs.gv 8 rfl rfl
         go_simp
        refine zbr (.pointer (some ⟨kb, 3, none⟩)) (fun _ => ⟨fun _ => Mv.refl _ _, fun _ => Grows.refl _⟩) ?_ ?_
        ·
         intro vs a w' hr hs
         have h0 := hs.gv 0 rfl rfl
         go_simp
        intro vs w8 hr hE
        have hmv : Mv (fun k => some k = row) w7 w8 := (Mv.refl _ _).drew.trans (hr.2 d9)
        have hR8 := hE _ (zaf 2 rfl)
        simp only at hR8
        obtain ⟨A8, c8, e8⟩ := Kd.zaR hR8
        have e0 : vs 0 = .pointer (some ⟨kb, 0, none⟩) := hE _ (zaf 10 rfl)
        have e1 : vs 1 = .pointer (some ⟨kb, 0, none⟩) := hE _ (zaf 9 rfl)
        have e2 : vs 2 = .pointer (some ⟨kb, 0, none⟩) := hE _ (zaf 8 rfl)
        have e3 : vs 3 = .pointer (some ⟨kb, 3, none⟩) := hE _ (zaf 7 rfl)
        have e4 : vs 4 = .slice Am ms.length cm := hE _ (zaf 6 rfl)
        have e5 : vs 5 = .pointer (some ⟨w.heap.size, 0, none⟩) := hE _ (zaf 5 rfl)
        have e6 : vs 6 = .string mn := hE _ (zaf 4 rfl)
        have e9 : vs 9 = .pointer (some ⟨kb, 0, none⟩) := hE _ (zaf 1 rfl)
        have e10 : vs 10 = .pointer (some ⟨kb, 3, none⟩) := hE _ (zaf 0 rfl)
        obtain ⟨b7, e7, -, -⟩ := hE _ (zaf 3 rfl)
        rw [e8] at hR8
        rw [show List.range 11 = [0, 1, 2, 3, 4, 5, 6, 7, 8, 9, 10] from rfl]
        simp only [ps, ga, pa, e0, e1, e2, e3, e4, e5, e6, e7, e8, e9, e10]
        clear hE e0 e1 e2 e3 e4 e5 e6 e7 e8 e9 e10 hr
        have hk7 := hmv.at HS.out.at_ HKN.out
        have gk := zah hk7 3
        have fk := free_at hk7 3
        simp only [ga] at gk
        refine zbY (i := 11) (r := []) (w' := w8.setCell ⟨kb, 3, none⟩ (.slice A8 (ms ++ [mn]).length c8)) rfl (zax rfl) q9 (zbd ?_)
        have hmR : Kd.string.R 9 w8 w0.heap.size (fun k => some k ≠ row ∧ k < w7.heap.size) (Value.slice Af fs.length cf) fs := Kd.zbM (Kd.zaz (Kd.za0 HS.out.fR) (fun k hk => ⟨by rw [hrow]; exact hk.1, hk.2.2.1⟩)) (fun k ho hk => hmv.block k hk (fun h => ho.1 h))
        have hfR : Kd.string.R 9 w8 w0.heap.size (fun k => some k ≠ (Value.slice Af fs.length cf).ownBlock) (.slice A8 (ms ++ [mn]).length c8) (ms ++ [mn]) := Kd.zaz hR8 (fun k hk e => by
         have h3 := (Kd.za0 HS.out.fR).1 k e.symm
         rcases hk with hk | hk
         ·
          exact hk.2 e
         ·
          exact Nat.lt_irrefl _ (Nat.lt_of_lt_of_le h3.2.2.1 hk))
        have hmR2 : Kd.string.R 9 w8 w0.heap.size (fun k => some k ≠ (Value.slice A8 (ms ++ [mn]).length c8).ownBlock) (Value.slice Af fs.length cf) fs := Kd.zaz hmR (fun k hk e => by
         rcases hR8.1 k e.symm with h | h
         ·
          exact hk.1 h.1
         ·
          exact Nat.lt_irrefl _ (Nat.lt_of_lt_of_le hk.2 h))
        have hb8 : Below w0.heap.size w0 w8 := HS.out.bl.trans (hmv.below HS.out.bl.size (fun k h => (HRL.out k h).2))
        have KEY := zaa.mk (show ChkS w0 (w8.setCell ⟨kb, 3, none⟩ (.slice A8 (ms ++ [mn]).length c8)) kb ad c0 t i (.slice Af fs.length cf) (.slice A8 (ms ++ [mn]).length c8) fs (ms ++ [mn]) from
         ⟨zaK hk7 3 _ rfl, hb8.trans (((Mv.refl (fun k => w0.heap.size ≤ k) w8).setCell (p := ⟨kb, 3, none⟩) (.inl HS.out.kb0) _).below hb8.size (fun _ h => h)), HS.out.kb0, Kd.R_set hmR2 hk7 d9 3 _, Kd.R_set hfR hk7 d9 3 _⟩)
        have hkv : ¬ w.heap.size = kb := fun e => by
         have h1 := HV.out
         rw [e, HS.out.at_] at h1
         simp at h1
        have hv9 := at_set (hmv.at HV.out HVN.out) (p := ⟨kb, 3, none⟩) (by simpa using hkv) (.slice A8 (ms ++ [mn]).length c8)
        clear hmR hfR hmR2 hb8 hR8 hk7 gk fk hmv hkv
        obtain ⟨w9, hw9⟩ : ∃ w9, w9 = w8.setCell ⟨kb, 3, none⟩ (.slice A8 (ms ++ [mn]).length c8) := ⟨_, rfl⟩
        rw [← hw9] at KEY hv9 ⊢
        clear hw9 HC HG HV HS
        have HV := zaa.mk hv9
        obtain ⟨ad', A4, c4, A5, c5, e', hc⟩ := (KEY.out.chk h0).cls
        cases e'
        have HC := zaa.mk hc
        have HG := zaa.mk (h0.gw.below KEY.out.bl)
        clear hv9 hc
        go_wp2_with fail
        have HD := zaa.mk HC.out.drew
        have HVD := zaa.mk (show w9.drew.heap[w.heap.size]? = some (.cells #[.string mn, .slice Ap pz.length cp, .string rs] 51 (0, 0)) from HV.out)
        obtain ⟨M, hM⟩ : ∃ M, M = methM t mn (methodAt t mn (lineL t (clsAt t i).f1)) := ⟨_, rfl⟩
        obtain ⟨oc, hoc⟩ : ∃ oc, oc = methC t (methodAt t mn (lineL t (clsAt t i).f1)) := ⟨_, rfl⟩
        obtain ⟨b4, hb4⟩ : ∃ b4, b4 = (methodAt t mn (lineL t (clsAt t i).f1)).isSome := ⟨_, rfl⟩
        have HMC := zaa.mk (show ∀ w2 : World, Kd.C k43 w2 (some ad) t.length t → Calls Tryd.prog 39 #[.slice (some ad) t.length c0, .string (clsAt t i).f1, .string mn] w2 (fun e w' => ∃ v, e = .returned (.tuple #[.agg #[.string M.f0, v, .string M.f2], .string oc, .bool b4]) ∧ Kd.R k48 48 w' w2.heap.size (fun _ => True) v M.f1 ∧ Below w2.heap.size w2 w') from fun w2 h => by rw [hM, hoc, hb4]; exact zdo (some ad) c0 t (clsAt t i).f1 mn w2 h hsm)
        have hml := zgu hsm (clsAt t i).f1 mn
        rw [← hM] at hml
        rw [← hM, ← hb4] at HF
        have HML := zaa.mk hml
        clear hM hoc hb4 hml HV
        refine zdM (N := 140) 20 (fun i A B => (i = 17 → Grows A B) ∧ (¬ i = 17 → TG w9.heap.size A B)) (fun i A B => (i = 17 → TG w9.heap.size A B) ∧ (¬ i = 17 → Grows A B)) k9 k9 rfl (fun _ => ⟨fun _ => Grows.refl _, fun _ => TG.refl _ _⟩) (fun _ _ => ⟨fun _ => TG.refl _ _, fun _ => Grows.refl _⟩) (fun {i j A B C} hij h1 h2 => ⟨fun hj => (h1.1 hj).trans (h2.2 (fun e => hij (e.trans hj.symm))), fun hj => (h1.2 hj).trans (by by_cases hi : i = 17; exact h2.1 hi; exact TG.zgK (h2.2 hi))⟩) ?_
        rw [show List.range 20 = [0, 1, 2, 3, 4, 5, 6, 7, 8, 9, 10, 11, 12, 13, 14, 15, 16, 17, 18, 19] from rfl]
        refine zbr (.pointer (some ⟨kb, 0, none⟩)) (fun _ => ⟨fun _ => TG.refl _ _, fun _ => Grows.refl _⟩) ?_ ?_
        ·
         intro vs a w' hr0 hs
         have hr : Below w9.heap.size w9.drew w' := (hr0.2 d9).bl (Nat.le_refl _)
         have h0 := hs.ov 0 (.pointer (some ⟨kb, 0, none⟩))
         go_simp
        refine zbr (.pointer (some ⟨kb, 0, none⟩)) (fun _ => ⟨fun _ => TG.refl _ _, fun _ => Grows.refl _⟩) ?_ ?_
        ·
         intro vs a w' hr0 hs
         have hr : Below w9.heap.size w9.drew w' := (hr0.2 d9).bl (Nat.le_refl _)
         have h0 := hs.gv 0 rfl rfl
         go_simp
        refine zbr (.pointer (some ⟨kb, 0, none⟩)) (fun _ => ⟨fun _ => TG.refl _ _, fun _ => Grows.refl _⟩) ?_ ?_
        ·
         intro vs a w' hr0 hs
         have hr : Below w9.heap.size w9.drew w' := (hr0.2 d9).bl (Nat.le_refl _)
         have h0 := hs.gv 0 rfl rfl
         go_simp
        refine zbr (.slice (some ad) t.length c0) (fun _ => ⟨fun _ => TG.refl _ _, fun _ => Grows.refl _⟩) ?_ ?_
        ·
         intro vs a w' hr0 hs
         have hr : Below w9.heap.size w9.drew w' := (hr0.2 d9).bl (Nat.le_refl _)
         have h0 := hs.gv 0 rfl rfl
         have g := (HD.out.below hr).k0
         go_simp
        refine zbr (.pointer (some ⟨kb, 0, none⟩)) (fun _ => ⟨fun _ => TG.refl _ _, fun _ => Grows.refl _⟩) ?_ ?_
        ·
         intro vs a w' hr0 hs
         have hr : Below w9.heap.size w9.drew w' := (hr0.2 d9).bl (Nat.le_refl _)
         have h0 := hs.ov 0 (.pointer (some ⟨kb, 0, none⟩))
         go_simp
        refine zfT (fun v _ => v = .pointer (some (ad.add (i * 4)))) (fun _ _ _ _ _ _ h => h) Tryd.func43 ?_ ?_
        ·
         intro vs a w' hr0 hs
         have hr : Below w9.heap.size w9.drew w' := (hr0.2 d9).bl (Nat.le_refl _)
         have h0 := hs.gv 0 rfl rfl
         rw [show (#[Operand.tmp 112] : Array Operand).map a.eval = #[.pointer (some ⟨kb, 0, none⟩)] by simp [Act.eval, h0]]
         refine (zbS kb (some ad) c0 t i _ _ _ (HD.out.below hr).chk).mono ?_
         rintro e w3 ⟨rfl, hb⟩
         exact ⟨_, rfl, ⟨fun e => absurd e d9, fun _ => hb⟩, rfl⟩
        refine zbr (.pointer (some (ad.add (i * 4)))) (fun _ => ⟨fun _ => TG.refl _ _, fun _ => Grows.refl _⟩) ?_ ?_
        ·
         intro vs a w' hr0 hs
         have hr : Below w9.heap.size w9.drew w' := (hr0.2 d9).bl (Nat.le_refl _)
         have h0 := hs.gv 0 rfl rfl
         go_simp
        refine zbr (.pointer (some ⟨(ad.add (i * 4)).block, (ad.add (i * 4)).off + 1, none⟩)) (fun _ => ⟨fun _ => TG.refl _ _, fun _ => Grows.refl _⟩) ?_ ?_
        ·
         intro vs a w' hr0 hs
         have hr : Below w9.heap.size w9.drew w' := (hr0.2 d9).bl (Nat.le_refl _)
         have h0 := hs.gv 0 rfl rfl
         go_simp
        refine zbr (.string (clsAt t i).f1) (fun _ => ⟨fun _ => TG.refl _ _, fun _ => Grows.refl _⟩) ?_ ?_
        ·
         intro vs a w' hr0 hs
         have hr : Below w9.heap.size w9.drew w' := (hr0.2 d9).bl (Nat.le_refl _)
         have h0 := hs.gv 0 rfl rfl
         have g := (HD.out.below hr).x1
         go_simp
        refine zbr (.pointer (some ⟨w.heap.size, 0, none⟩)) (fun _ => ⟨fun _ => TG.refl _ _, fun _ => Grows.refl _⟩) ?_ ?_
        ·
         intro vs a w' hr0 hs
         have hr : Below w9.heap.size w9.drew w' := (hr0.2 d9).bl (Nat.le_refl _)
         have h0 := hs.ov 3 (.pointer (some ⟨w.heap.size, 0, none⟩))
         go_simp
        refine zbr (.string mn) (fun _ => ⟨fun _ => TG.refl _ _, fun _ => Grows.refl _⟩) ?_ ?_
        ·
         intro vs a w' hr0 hs
         have hr : Below w9.heap.size w9.drew w' := (hr0.2 d9).bl (Nat.le_refl _)
         have h0 := hs.gv 0 rfl rfl
         have g := zah ((hr.block _ (by have := zam HVD.out; exact this)).trans HVD.out) 0
         simp only [ga] at g
         go_simp
        refine zfT (fun v W' => ∃ vp, v = .tuple #[.agg #[.string M.f0, vp, .string M.f2], .string oc, .bool b4] ∧ Kd.R k48 48 W' w9.heap.size (fun _ => True) vp M.f1) (fun j _ v A B hg ⟨vp, e, hR⟩ => ⟨vp, e, by by_cases hj : j = 17; exact (hg.1 hj).row hR; exact Kd.zaY hR (hg.2 hj)⟩) Tryd.func39 ?_ ?_
        ·
         intro vs a w' hr0 hs
         have hr : Below w9.heap.size w9.drew w' := (hr0.2 d9).bl (Nat.le_refl _)
         have h0 := hs.gv 0 rfl rfl
         have h2 := hs.gv 2 rfl rfl
         have h7 := hs.gv 7 rfl rfl
         rw [show (#[Operand.tmp 111, Operand.tmp 116, Operand.tmp 118] : Array Operand).map a.eval = #[.slice (some ad) t.length c0, .string (clsAt t i).f1, .string mn] by simp [Act.eval, h0, h2, h7]]
         refine (HMC.out w' (HD.out.below hr).tab).mono ?_
         rintro e w3 ⟨v, rfl, hR, hb⟩
         exact ⟨_, rfl, ⟨fun e => absurd e d9, fun _ => hb⟩, v, rfl, Kd.zbm hR hr.size⟩
        refine zcN (fun v W' => ∃ vp, v = .tuple #[.agg #[.string M.f0, vp, .string M.f2], .string oc, .bool b4] ∧ Kd.R k48 48 W' w9.heap.size (fun _ => True) vp M.f1) (fun j _ v A B hg ⟨vp, e, hR⟩ => ⟨vp, e, by by_cases hj : j = 17; exact (hg.1 hj).row hR; exact Kd.zaY hR (hg.2 hj)⟩) rfl (fun _ _ _ _ _ => zax rfl) ?_ ?_
        ·
         intro vs a w' hr0 hs
         obtain ⟨vp, e0, hR⟩ := hs.get 0 rfl k9 rfl
         exact ⟨_, w', by go_simp, ⟨fun e => absurd e d9, fun _ => Grows.refl _⟩, vp, rfl, hR⟩
        refine zcN (fun v W' => ∃ vp, v = .agg #[.string M.f0, vp, .string M.f2] ∧ Kd.R k48 48 W' w9.heap.size (fun _ => True) vp M.f1) (fun j _ v A B hg ⟨vp, e, hR⟩ => ⟨vp, e, by by_cases hj : j = 17; exact (hg.1 hj).row hR; exact Kd.zaY hR (hg.2 hj)⟩) rfl (fun _ _ _ _ _ => zax rfl) ?_ ?_
        ·
         intro vs a w' hr0 hs
         obtain ⟨vp, e0, hR⟩ := hs.get 0 rfl k9 rfl
         exact ⟨.agg #[.string M.f0, vp, .string M.f2], w', by go_simp, ⟨fun e => absurd e d9, fun _ => Grows.refl _⟩, vp, rfl, hR⟩
        refine zcN (fun v _ => v = .string oc) (fun _ _ _ _ _ _ h => h) rfl (fun _ _ _ _ _ => zax rfl) ?_ ?_
        ·
         intro vs a w' hr0 hs
         obtain ⟨vp, e0, -⟩ := hs.get 1 rfl k9 rfl
         exact ⟨.string oc, w', by go_simp, ⟨fun e => absurd e d9, fun _ => Grows.refl _⟩, rfl⟩
        refine zcN (fun v _ => v = .bool b4) (fun _ _ _ _ _ _ h => h) rfl (fun _ _ _ _ _ => zax rfl) ?_ ?_
        ·
         intro vs a w' hr0 hs
         obtain ⟨vp, e0, -⟩ := hs.get 2 rfl k9 rfl
         exact ⟨.bool b4, w', by go_simp, ⟨fun e => absurd e d9, fun _ => Grows.refl _⟩, rfl⟩
        refine zcN (fun v W' => ∃ b x y z, v = .pointer (some ⟨b, 0, none⟩) ∧ w9.heap.size ≤ b ∧ W'.heap[b]? = some (.cells #[x, y, z] 51 (0, 0))) (fun j _ v A B hg ⟨b, x, y, z, e, hb, h⟩ => by by_cases hj : j = 17; (obtain ⟨x', y', z', h'⟩ := (hg.1 hj).sig b x y z h; exact ⟨b, x', y', z', e, hb, h'⟩); exact ⟨b, x, y, z, e, hb, (hg.2 hj).at h⟩) rfl (fun _ _ _ _ _ => zax rfl) ?_ ?_
        ·
         intro vs a w' hr0 hs
         have hr : Below w9.heap.size w9.drew w' := (hr0.2 d9).bl (Nat.le_refl _)
         refine ⟨.pointer (some ⟨w'.heap.size, 0, none⟩), w'.alloc (.cells #[.string ⟨#[]⟩, .slice none 0 0, .string ⟨#[]⟩] 51), ?_, ⟨fun e => absurd e d9, fun _ => Grows.alloc _ _⟩, _, _, _, _, rfl, hr.size, at_new _ _ rfl⟩
         go_simp
        refine zgE (fun vs W' => ∃ b x y z, vs 16 = .pointer (some ⟨b, 0, none⟩) ∧ vs 13 = .agg #[x, y, z] ∧ W'.heap[b]? = some (.cells #[x, y, z] 51 (0, 0))) (fun j hj vs A B hg ⟨b, x, y, z, e, e2, h⟩ => ⟨b, x, y, z, e, e2, (hg.2 hj).at h⟩) (fun vs vs' w hv ⟨b, x, y, z, e, e2, h⟩ => ⟨b, x, y, z, (hv 16 (zdt k9)).trans e, (hv 13 (zdt k9)).trans e2, h⟩) rfl rfl (fun _ _ _ _ _ => zax rfl) ?_ ?_
        ·
         intro vs a w' hr0 hs hv
         obtain ⟨b, x, y, z, e0, hb, h⟩ := hs.get 0 rfl k9 rfl
         obtain ⟨vp, e3, hR⟩ := hs.get 3 rfl k9 rfl
         have e16 := hv _ (zaf 0 rfl) (zdt k9) 13 rfl
         have e13 := hv _ (zaf 3 rfl) (zdt k9) 120 rfl
         obtain ⟨Av, cv, hvp⟩ := Kd.zaR hR
         subst hvp
         refine ⟨w'.setRow b #[.string M.f0, .slice Av M.f1.length cv, .string M.f2], ?_, ⟨fun _ => TG.zg8 h hb _ _ _, fun e => absurd rfl e⟩, b, _, _, _, e16.symm.trans e0, e13.symm.trans e3, setRow_heap w' b _ _ _ _ h⟩
         exact zeg 51 (.tmp 13) (.tmp 120) rfl b _ (by simpa [Act.eval] using e0) (by simpa [Act.eval] using e3) 51 #[x, y, z] h k9 rfl (by simp [Value.oneCell'])
        refine zbr (.string oc) (fun _ => ⟨fun _ => TG.refl _ _, fun _ => Grows.refl _⟩) ?_ ?_
        ·
         intro vs a w' hr0 hs
         have hr : Below w9.heap.size w9.drew w' := (hr0.2 d9).bl (Nat.le_refl _)
         have h0 := hs.gv 3 rfl rfl
         go_simp
        refine zbr (.bool b4) (fun _ => ⟨fun _ => TG.refl _ _, fun _ => Grows.refl _⟩) ?_ ?_
        ·
         intro vs a w' hr0 hs
         have hr : Below w9.heap.size w9.drew w' := (hr0.2 d9).bl (Nat.le_refl _)
         have h0 := hs.gv 3 rfl rfl
         go_simp
        intro vs w10 hr hE
        have htg := hr.2 d9
        obtain ⟨b, x, y, z, e16, e13, hsig⟩ := hE _ (zaf 2 rfl)
        try simp only at e16 e13 hsig
        obtain ⟨b', -, -, -, f16, hbn, -⟩ := hE _ (zaf 3 rfl)
        obtain ⟨vp, f13, hR⟩ := hE _ (zaf 6 rfl)
        try simp only at f13 hR
        have e18 : vs 18 = .string oc := hE _ (zaf 1 rfl)
        have e19 : vs 19 = .bool b4 := hE _ (zaf 0 rfl)
        rw [f13] at e13
        rw [f16] at e16
        cases e16
        cases e13
        clear hE
        rw [show List.range 20 = [0, 1, 2, 3, 4, 5, 6, 7, 8, 9, 10, 11, 12, 13, 14, 15, 16, 17, 18, 19] from rfl]
        simp only [ps, ga, pa, f16, f13, e18, e19]
        refine zbd ?_
        clear f16 f13 e18 e19
        have hgr : Below w9.heap.size w9 w10 := (Below.refl w9.heap.size w9).drew.trans (htg.bl (Nat.le_refl _))
        have HV := zaa.mk ((hgr.block _ (by have := zam HVD.out; exact this)).trans HVD.out)
        have HSG := zaa.mk hsig
        have HRV := zaa.mk hR
        replace HC := zaa.mk (HC.out.below hgr)
        have HKEY := zaa.mk (KEY.out.below hgr)
        clear htg hr hgr hsig hR hbn HD HVD HMC
        obtain ⟨Av, cv, hvp⟩ := Kd.zaR HRV.out
        subst hvp
        have HVC := zaa.mk (show Kd.C k48 w10 Av M.f1.length M.f1 from by
         obtain ⟨A', c', e', _, h⟩ := Kd.zbB HRV.out
         cases e'
         exact h)
        have HPC := zaa.mk (Kd.zay HPS.out HKEY.out.bl)
        have HVD := HV
        clear HRV HC HG HPS
        have gb1 := zah HSG.out 1
        have gb2 := zah HSG.out 2
        have gv1 := zah HV.out 1
        have gv2 := zah HV.out 2
        simp only [ga] at gb1 gb2 gv1 gv2
        cases b4 with
        | false =>
         rw [if_neg s9] at HF
         go_wp2_with fail
         go_ret
         exact ⟨by rw [HF.out]; rfl, _, ms ++ [mn], HKEY.out, fun _ => rfl⟩
        | true =>
         by_cases hq : M.f2.toList = rs.toList
         ·
          have hq1 : (M.f2.toList == rs.toList) = true := by simpa using hq
          obtain ⟨b5, hb5⟩ : ∃ b5, b5 = likeV M.f1 pz := ⟨_, rfl⟩
          have HEQ := zaa.mk (zeq Av Ap cv cp M.f1 pz w10 HVC.out HPC.out HML.out o9)
          have HQ := zaa.mk hq
          rw [← hb5] at HF HEQ
          clear hb5 hq
          go_wp2_with fail
          refine HEQ.out.mono ?_
          rintro e w11 ⟨rfl, hb⟩
          have HK11 := zaa.mk (HKEY.out.below hb)
          clear hb HEQ
          cases b5 with
          | false =>
           rw [if_pos s9] at HF
           go_wp2_with fail
           go_ret
           exact ⟨by rw [HF.out]; rfl, _, ms ++ [mn], HK11.out, fun e => absurd (HF.out.symm.trans e) d9⟩
          | true =>
           rw [if_neg (by simp [HQ.out])] at HF
           go_wp2_with fail
           go_ret
           exact ⟨by rw [HF.out]; rfl, _, ms ++ [mn], HK11.out, fun _ => rfl⟩
         ·
          have hq1 : (M.f2.toList == rs.toList) = false := by simpa using hq
          rw [if_pos ⟨rfl, .inl hq⟩] at HF
          clear hq
          go_wp2_with fail
          go_ret
          exact ⟨by rw [HF.out]; rfl, _, ms ++ [mn], HKEY.out, fun e => absurd (HF.out.symm.trans e) d9⟩
    ·
     rw [if_pos hE] at HF
     go_wp2_with fail
     go_ret
     exact ⟨by rw [HF.out]; rfl, _, ms, HS.out, fun e => absurd (HF.out.symm.trans e) hE⟩
def zcP (t : List (S43)) (mb : List (S84)) : List (S48) → List ByteArray → Int
 | [], _ => 0
 | v :: r, fs => if zc4 t mb fs v.f0 v.f1 = 0 then zcP t mb r (fs ++ [v.f0]) else zc4 t mb fs v.f0 v.f1
def zcJ (t : List (S43)) (su : ByteArray) (fs : List ByteArray) : List (S51) → List ByteArray → Int
 | [], _ => 0
 | m :: r, ms => if zcu t su fs ms m.f0 m.f1 m.f2 = 0 then zcJ t su fs r (ms ++ [m.f0]) else zcu t su fs ms m.f0 m.f1 m.f2
def ownF (t : List (S43)) (mb : List (S84)) (i : Nat) : Int :=
 if zcP t mb (clsAt t i).f2 [] = 0 then zcJ t (clsAt t i).f1 ((clsAt t i).f2.map (fun x : S48 => x.f0)) (clsAt t i).f3 [] else zcP t mb (clsAt t i).f2 []
structure Fits (c : S43) : Prop where
 nm : c.f0.size ≤ 9223372036854775807
 su : c.f1.size ≤ 9223372036854775807
 fl : c.f2.length < 1000000
 fs : ∀ v ∈ c.f2, v.f0.size ≤ 9223372036854775807 ∧ v.f1.size ≤ 9223372036854775807
 ml : c.f3.length < 1000000
 ms : ∀ m ∈ c.f3, m.f0.size ≤ 9223372036854775807 ∧ m.f2.size ≤ 9223372036854775807 ∧ m.f1.length < 1000000 ∧ ∀ p ∈ m.f1, p.f0.size ≤ 9223372036854775807 ∧ p.f1.size ≤ 9223372036854775807
theorem zfK (t : List (S43)) (mb : List (S84)) (l : List (S48)) (j : Nat) (h : j < l.length) (fs : List ByteArray) : zcP t mb (l.drop j) fs = if zc4 t mb fs (za1 l (j : Int)).f0 (za1 l (j : Int)).f1 = 0 then zcP t mb (l.drop (j + 1)) (fs ++ [(za1 l (j : Int)).f0]) else zc4 t mb fs (za1 l (j : Int)).f0 (za1 l (j : Int)).f1 := by
 rw [List.drop_eq_getElem_cons h]
 unfold za1
 rw [Int.toNat_natCast, List.getD_eq_getElem?_getD, List.getElem?_eq_getElem h]
 rfl
theorem zeU (t : List (S43)) (su : ByteArray) (fs : List ByteArray) (l : List (S51)) (j : Nat) (h : j < l.length) (ms : List ByteArray) : zcJ t su fs (l.drop j) ms = if zcu t su fs ms (zaQ l (j : Int)).f0 (zaQ l (j : Int)).f1 (zaQ l (j : Int)).f2 = 0 then zcJ t su fs (l.drop (j + 1)) (ms ++ [(zaQ l (j : Int)).f0]) else zcu t su fs ms (zaQ l (j : Int)).f0 (zaQ l (j : Int)).f1 (zaQ l (j : Int)).f2 := by
 rw [List.drop_eq_getElem_cons h]
 unfold zaQ
 rw [Int.toNat_natCast, List.getD_eq_getElem?_getD, List.getElem?_eq_getElem h]
 rfl
theorem zfD (l : List (S51)) (j : Nat) (h : j < l.length) : (l.take (j + 1)).map (fun x : S51 => x.f0) = (l.take j).map (fun x : S51 => x.f0) ++ [(zaQ l (j : Int)).f0] := by
 rw [List.take_succ_eq_append_getElem h, List.map_append]
 unfold zaQ
 rw [Int.toNat_natCast, List.getD_eq_getElem?_getD, List.getElem?_eq_getElem h]
 rfl
theorem zhr {l : List (S48)} {j : Nat} (h : j < l.length) : za1 l (j : Int) ∈ l := by
 unfold za1
 rw [Int.toNat_natCast, List.getD_eq_getElem?_getD, List.getElem?_eq_getElem h]
 exact List.getElem_mem h
theorem zhs {l : List (S51)} {j : Nat} (h : j < l.length) : zaQ l (j : Int) ∈ l := by
 unfold zaQ
 rw [Int.toNat_natCast, List.getD_eq_getElem?_getD, List.getElem?_eq_getElem h]
 exact List.getElem_mem h
theorem zfS (w0 w : World) (kb : Nat) (ad : Addr) (c0 : Nat) (t : List (S43)) (i : Nat) (v2 v3 : Value) (mb : List (S84)) (h0 : Tab0 w0 ad c0 t i)
  (hat : w.heap[kb]? = some (.cells #[.slice (some ad) t.length c0, .int .i64 (i : Int), v2, v3] 58 (0, 0))) (hbl : Below w0.heap.size w0 w) (hkb : w0.heap.size ≤ kb)
  (hM : zdj (some ad) c0 t (clsAt t i).f1 mb w0) (hml : mb.length < 4398046511104) (hsm : Small t) (hfd : (zbH t (clsAt t i).f1).length < 4398046511104) (hfit : Fits (clsAt t i)) :
  Calls Tryd.prog 26 #[.pointer (some ⟨kb, 0, none⟩)] w fun e w' => e = .returned (.int .i64 (ownF t mb i)) ∧ (∃ v2' v3', w'.heap[kb]? = some (.cells #[.slice (some ad) t.length c0, .int .i64 (i : Int), v2', v3'] 58 (0, 0))) ∧ Below w0.heap.size w0 w' := by
 obtain ⟨r, hr⟩ : ∃ r, r = ownF t mb i := ⟨_, rfl⟩
 have HF := zaa.mk hr
 rw [← hr]
 unfold ownF at HF
 obtain ⟨E1, hE1⟩ : ∃ E1, E1 = zcP t mb (clsAt t i).f2 [] := ⟨_, rfl⟩
 rw [← hE1] at HF
 have HE1 := zaa.mk hE1.symm
 obtain ⟨W1, hW1⟩ : ∃ W1, W1 = (w.setCell ⟨kb, 2, none⟩ (.slice none 0 0)).setCell ⟨kb, 3, none⟩ (.slice none 0 0) := ⟨_, rfl⟩
 have hk1 : W1.heap[kb]? = some (.cells #[.slice (some ad) t.length c0, .int .i64 (i : Int), .slice none 0 0, .slice none 0 0] 58 (0, 0)) := by
  rw [hW1]; exact zbo (zbo hat 2 _) 3 _
 have hbl1 : Below w0.heap.size w0 W1 := by rw [hW1]; exact (hbl.setCell (p := ⟨kb, 2, none⟩) hkb _).setCell (p := ⟨kb, 3, none⟩) hkb _
 have HS := zaa.mk (show ChkS w0 W1 kb ad c0 t i (.slice none 0 0) (.slice none 0 0) [] [] from ⟨hk1, hbl1, hkb, Kd.R_nil _ _ _ _ _, Kd.R_nil _ _ _ _ _⟩)
 have HCC := zaa.mk (zbS kb (some ad) c0 t i _ _ _ (HS.out.chk h0))
 simp only [encP, Option.map_some] at HCC
 obtain ⟨ad', A2, c2, A3, c3, e', x0, x1, x2, x3, l2, hC2, l3, hC3⟩ := zb0 h0.tab (i : Int) o9 (by have := h0.lt; omega)
 cases e'
 simp only [Int.toNat_natCast] at x2 x3
 change w0.cell? _ = some (Value.slice A2 (clsAt t i).f2.length c2) at x2
 change w0.cell? _ = some (Value.slice A3 (clsAt t i).f3.length c3) at x3
 change Kd.C k48 w0 A2 (clsAt t i).f2.length (clsAt t i).f2 at hC2
 change Kd.C k51 w0 A3 (clsAt t i).f3.length (clsAt t i).f3 at hC3
 have HX2 := zaa.mk x2
 have HX3 := zaa.mk x3
 have HC2 := zaa.mk hC2
 have HC3 := zaa.mk hC3
 have hk0 := hat
 have fk2 := free_at hat 2
 have fk3 := free_at (zbo hat 2 (.slice none 0 0)) 3
 have gk2 := zah hat 2
 have gk3 := zah (zbo hat 2 (.slice none 0 0)) 3
 simp only [ga] at gk2 gk3
 have hu := Tryd.underlying58
 have hu2 := Tryd.underlying43
 have hu3 := Tryd.underlying48
 have hu4 := Tryd.underlying51
 have HM := zaa.mk hM
 obtain ⟨c, hc⟩ : ∃ c, c = clsAt t i := ⟨_, rfl⟩
 clear hr hE1 hk1 hbl1 x0 x1 x2 x3 l2 l3 hC2 hC3 hat hk0 hM
 go_enter Tryd.func26, Tryd.ntmps26
 go_wp2_with fail
 rw [← hW1]
 clear hW1 gk2 gk3 fk2 fk3
 refine HCC.out.mono ?_
 rintro e w2 ⟨rfl, hb⟩
 replace HS := zaa.mk (HS.out.below hb)
 clear hb HCC
 have gx2 := (HS.out.bl.cell (block_lt_of_cell HX2.out)).trans HX2.out
 have HFT := zaa.mk hfit
 have hlen : ((clsAt t i).f2.length : Int) < 4398046511104 := by have := hfit.fl; omega
 have hlen3 : ((clsAt t i).f3.length : Int) < 4398046511104 := by have := hfit.ml; omega
 obtain ⟨l, hl⟩ : ∃ l, l = (clsAt t i).f2 := ⟨_, rfl⟩
 obtain ⟨lm, hlm⟩ : ∃ lm, lm = (clsAt t i).f3 := ⟨_, rfl⟩
 rw [← hl, ← hlm] at HF
 rw [← hl] at HX2 HC2 HE1 gx2 hlen
 rw [← hlm] at HX3 HC3 hlen3
 have HL := zaa.mk hl
 have HLM := zaa.mk hlm
 clear hl hlm hc hfit
 go_wp2_with fail
 go_loopw [21] (fun v21 wr => ∃ (j : Nat), j ≤ l.length ∧ v21 = .int .i64 (j : Int) ∧ zaa (zcP t mb (l.drop j) ((l.take j).map (fun x : S48 => x.f0)) = E1 ∧ ∃ v2, ChkS w0 wr kb ad c0 t i v2 (.slice none 0 0) ((l.take j).map (fun x : S48 => x.f0)) [])) (fun v21 _ => l.length - (intOf v21).toNat)
 case atStart => exact ⟨0, Nat.zero_le _, rfl, ⟨HE1.out, _, HS.out⟩⟩
 case round =>
  obtain ⟨j, hj, rfl, ⟨hI, v2', hS⟩⟩ := hrel
  clear HS gx2
  have HS := zaa.mk hS
  clear hS
  by_cases hlt : j < l.length
  ·
   obtain ⟨adp, hAp, x0, x1⟩ := zcM (Kd.zay HC2.out HS.out.bl) (j : Int) o9 o9
   simp only [Int.toNat_natCast] at x0 x1
   have hat := zfK t mb l j hlt ((l.take j).map (fun x : S48 => x.f0))
   have hts := zd3 l j hlt
   have hmem := zhr hlt
   obtain ⟨p, hp⟩ : ∃ p, p = za1 l (j : Int) := ⟨_, rfl⟩
   rw [← hp] at x0 x1 hat hts hmem
   rw [← hts, hI] at hat
   have hp0 := HFT.out.fs p (by rw [← HL.out]; exact hmem)
   obtain ⟨wb, hwb⟩ : ∃ wb, wb = wr.alloc (.cells #[.string p.f0, .string p.f1] 48) := ⟨_, rfl⟩
   have hgb : Below wr.heap.size wr wb := by rw [hwb]; exact (Below.refl _ _).alloc (Nat.le_refl _) _
   have hnl : ((l.take j).map (fun x : S48 => x.f0)).length = j := by simp; omega
   have HFC := zaa.mk (zeW w0 wb kb ad c0 t i v2' (.slice none 0 0) ((l.take j).map (fun x : S48 => x.f0)) [] p.f0 p.f1 mb h0 (HS.out.below hgb) HM.out hml hp0.1 hp0.2 (by have := HFT.out.fl; rw [← HL.out] at this; omega))
   obtain ⟨E2, hE2⟩ : ∃ E2, E2 = zc4 t mb ((l.take j).map (fun x : S48 => x.f0)) p.f0 p.f1 := ⟨_, rfl⟩
   rw [← hE2] at HFC hat
   have HAT := zaa.mk hat
   have HTS := zaa.mk hts
   have j0 : (0 : Int) ≤ (j : Int) := by omega
   have j1 : (j : Int) < (l.length : Int) := by omega
   subst hAp
   clear hat hts hmem hp hI hgb hnl hE2 hp0
   go_wp2_with fail
   rw [← hwb]
   clear hwb x0 x1
   refine HFC.out.mono ?_
   rintro e w3 ⟨rfl, v2'', fs', hS3, hfs⟩
   have HS3 := zaa.mk hS3
   have HFS := zaa.mk hfs
   clear hS3 hfs HFC
   by_cases hE : E2 = 0
   ·
    rw [if_pos hE] at HAT
    have hfs := HFS.out hE
    subst hE
    go_wp2_with fail
    go_roundw
    case rel =>
     refine ⟨j + 1, by omega, by go_num, ⟨HAT.out.symm, v2'', ?_⟩⟩
     have := HS3.out
     rw [hfs, ← HTS.out] at this
     exact this
    case measure => simp [intOf]; omega
   ·
    rw [if_neg hE] at HAT
    rw [if_neg (by rw [HAT.out]; exact hE)] at HF
    have hE1 : decide (E2 = 0) = false := by simpa using hE
    clear hE1 HFS j0 j1 hlen hlen3 hlt hj
    go_wp2_with fail
    go_ret
    exact ⟨by rw [HF.out, HAT.out]; rfl, ⟨_, _, HS3.out.at_⟩, HS3.out.bl⟩
  ·
   have hj2 : j = l.length := by omega
   subst hj2
   have hE0 : E1 = 0 := by rw [← hI, List.drop_length]; rfl
   rw [if_pos hE0] at HF
   rw [List.take_length] at HS
   obtain ⟨fs, hfs⟩ : ∃ fs, fs = l.map (fun x : S48 => x.f0) := ⟨_, rfl⟩
   have hfl : fs.length < 1000000 := by rw [hfs, List.length_map, HL.out]; exact HFT.out.fl
   rw [← hfs] at HS HF
   have HCC := zaa.mk (zbS kb (some ad) c0 t i _ _ _ (HS.out.chk h0))
   simp only [encP, Option.map_some] at HCC
   obtain ⟨E3, hE3⟩ : ∃ E3, E3 = zcJ t (clsAt t i).f1 fs lm [] := ⟨_, rfl⟩
   rw [← hE3] at HF
   have HE3 := zaa.mk hE3.symm
   clear hI hfs hE3
   go_wp2_with fail
   refine HCC.out.mono ?_
   rintro e w3 ⟨rfl, hb⟩
   replace HS := zaa.mk (HS.out.below hb)
   clear hb HCC
   have gx3 := (HS.out.bl.cell (block_lt_of_cell HX3.out)).trans HX3.out
   go_wp2_with fail
   go_loopw [38] (fun v38 wr => ∃ (j : Nat), j ≤ lm.length ∧ v38 = .int .i64 (j : Int) ∧ zaa (zcJ t (clsAt t i).f1 fs (lm.drop j) ((lm.take j).map (fun x : S51 => x.f0)) = E3 ∧ ∃ v3, ChkS w0 wr kb ad c0 t i v2' v3 fs ((lm.take j).map (fun x : S51 => x.f0)))) (fun v38 _ => lm.length - (intOf v38).toNat)
   case atStart => exact ⟨0, Nat.zero_le _, rfl, ⟨HE3.out, _, HS.out⟩⟩
   case round =>
    obtain ⟨j, hj, rfl, ⟨hI, v3', hS⟩⟩ := hrel
    clear HS gx3
    have HS := zaa.mk hS
    clear hS
    by_cases hlt : j < lm.length
    ·
     obtain ⟨adp, Ap, cp, hAp, x0, x1, x2, hcp, hCp⟩ := zdF HC3.out (j : Int) o9 o9
     simp only [Int.toNat_natCast] at x0 x1 x2
     replace x0 := (HS.out.bl.cell (block_lt_of_cell x0)).trans x0
     replace x1 := (HS.out.bl.cell (block_lt_of_cell x1)).trans x1
     replace x2 := (HS.out.bl.cell (block_lt_of_cell x2)).trans x2
     have hat := zeU t (clsAt t i).f1 fs lm j hlt ((lm.take j).map (fun x : S51 => x.f0))
     have hts := zfD lm j hlt
     have hmem := zhs hlt
     obtain ⟨p, hp⟩ : ∃ p, p = zaQ lm (j : Int) := ⟨_, rfl⟩
     rw [← hp] at x0 x1 x2 hat hts hmem hCp
     rw [← hts, hI] at hat
     obtain ⟨q0, q2, q1, q3⟩ := HFT.out.ms p (by rw [← HLM.out]; exact hmem)
     obtain ⟨wb, hwb⟩ : ∃ wb, wb = wr.alloc (.cells #[.string p.f0, .slice Ap p.f1.length cp, .string p.f2] 51) := ⟨_, rfl⟩
     have hgb : Below wr.heap.size wr wb := by rw [hwb]; exact (Below.refl _ _).alloc (Nat.le_refl _) _
     have hnl : ((lm.take j).map (fun x : S51 => x.f0)).length = j := by simp; omega
     have HFC := zaa.mk (zeo w0 wb kb ad c0 t i v2' v3' fs ((lm.take j).map (fun x : S51 => x.f0)) p.f0 Ap cp p.f1 p.f2 h0 (HS.out.below hgb) hCp hsm hfd q0 q2 q3 q1 hfl (by have := HFT.out.ml; rw [← HLM.out] at this; omega))
     obtain ⟨E2, hE2⟩ : ∃ E2, E2 = zcu t (clsAt t i).f1 fs ((lm.take j).map (fun x : S51 => x.f0)) p.f0 p.f1 p.f2 := ⟨_, rfl⟩
     rw [← hE2] at HFC hat
     have HAT := zaa.mk hat
     have HTS := zaa.mk hts
     have j0 : (0 : Int) ≤ (j : Int) := by omega
     have j1 : (j : Int) < (lm.length : Int) := by omega
     subst hAp
     clear hat hts hmem hp hI hgb hnl hE2 q0 q1 q2 q3 hCp hcp
     go_wp2_with fail
     rw [← hwb]
     clear hwb x0 x1 x2
     refine HFC.out.mono ?_
     rintro e w3 ⟨rfl, v3'', ms', hS3, hfs⟩
     have HS3 := zaa.mk hS3
     have HFS := zaa.mk hfs
     clear hS3 hfs HFC
     by_cases hE : E2 = 0
     ·
      rw [if_pos hE] at HAT
      have hfs := HFS.out hE
      subst hE
      go_wp2_with fail
      go_roundw
      case rel =>
       refine ⟨j + 1, by omega, by go_num, ⟨HAT.out.symm, v3'', ?_⟩⟩
       have := HS3.out
       rw [hfs, ← HTS.out] at this
       exact this
      case measure => simp [intOf]; omega
     ·
      rw [if_neg hE] at HAT
      have hE1 : decide (E2 = 0) = false := by simpa using hE
      clear hE1 HFS j0 j1 hlen hlen3 hlt hj
      go_wp2_with fail
      go_ret
      exact ⟨by rw [HF.out, HAT.out]; rfl, ⟨_, _, HS3.out.at_⟩, HS3.out.bl⟩
    ·
     have hj2 : j = lm.length := by omega
     subst hj2
     have hE0 : E3 = 0 := by rw [← hI, List.drop_length]; rfl
     clear hI
     go_wp2_with fail
     go_ret
     exact ⟨by rw [HF.out, hE0]; rfl, ⟨_, _, HS.out.at_⟩, HS.out.bl⟩
end Go.Proofs.YtfhgmebhdchegaaDoorTab
end

section
namespace Go.Proofs.YtfhgmebhdchegaaDoorRF
open Go.RowKit Go.Proofs.YtfhgmebhdchegaaDoorW.zai Go.Proofs.YtfhgmebhdchegaaDoorW.zas Go.Proofs.YtfhgmebhdchegaaDoorRG
section
variable {F : Fence} {n : Nat} {P : Program} {ops : Array Oper} {rest : List Oper} {o : Oper} {a : Act} {Q : Exit → Act → World → Prop} {α : Type}
theorem zcI (enc : α → Value) {h1c : ∀ x, (enc x).oneCell' = true} (W : World) (hgd : o.guard = none) (s x : Operand) (t e : TypeId) (z : Value) (bytes : Nat)
  (ho : o.op = .call { callee := .builtin .append, args := #[s, x], argTypes := #[t, t] })
  (ht : P.underlying t = some (.slice e)) (hinfo : (P.info? e).map (fun i => (i.zero, i.size, i.bytes)) = some (some z, 1, bytes)) (hz : z.cells.size = 1) (hb0 : 0 < bytes)
  (base : Nat) (ok : Nat → Prop) (v : Value) (xs : List α) (p : α) (g c : Nat) (hs : a.eval s = v) (hx : a.eval x = .slice (some ⟨g, 0, none⟩) 1 c) (hg : W.cell? ⟨g, 0, none⟩ = some (enc p))
  (HO : (Kd.scalar enc h1c).R e W base ok v xs) (hbase : base ≤ W.heap.size) (hl : (xs.length + 1) * bytes ≤ 140737488355328)
  (h : ∀ v1 w1, (Kd.scalar enc h1c).R e w1 base (fun k => ok k ∨ W.heap.size ≤ k) v1 (xs ++ [p]) → W.grownBy w1 v.ownBlock → wpListIn F n P ops Q rest (a.put o.dst v1) w1) :
  wpListIn F n P ops Q (o :: rest) a W := by
 obtain ⟨i0, hi, hzz⟩ := Option.map_eq_some_iff.1 hinfo
 simp only [Prod.mk.injEq] at hzz
 obtain ⟨hz0, hz1, hz2⟩ := hzz
 have hlen : xs.length + 1 ≤ 140737488355328 := Nat.le_trans (Nat.le_mul_of_pos_right _ hb0) hl
 have hown := Kd.zcc HO
 obtain ⟨v1, w1, hrun, r1, r2, _, hat⟩ := run_append_own_at (P := P) W base t o.type e i0 z 1 bytes ht hi hz0 hz1 hz2 hz o9 v xs.length (encs enc xs) hown ⟨g, 0, none⟩ 1 c [enc p] rfl
  (fun j u hj => by
   cases j with
   | zero => simp only [List.getElem?_cons_zero, Option.some.injEq] at hj; subst hj; exact hg
   | succ j => simp at hj)
  (fun u hu => by rw [List.mem_singleton.1 hu]; exact h1c p) (by simp only [maxLen]; omega) hl hbase
 refine wpListIn_plain hgd fun K hK' => ?_
 unfold Oper.wpIn
 refine ⟨?_, ?_⟩
 ·
  simp [Oper.about, ho, resolve, Target.leads, Sem.run_pure]
 ·
  rw [Oper.semAt_plain F _ _ (by rw [ho]; intro c hc'; cases hc')]
  simp [execOp, ho, resolve, invoke, builtin, hs, hx, hrun, Result.andThen]
  refine hK' _ _ (h v1 w1 (Kd.zca ?_ (fun k hk => ?_)) r2)
  ·
   rw [List.length_append]
   have he : encs enc (xs ++ [p]) = encs enc xs ++ [enc p] := by simp [encs]
   rw [he]; exact r1
  ·
   rcases hat with e1 | e1
   ·
    exact .inl (HO.1 k (by rw [← e1]; exact hk))
   ·
    rw [e1] at hk
    injection hk with hk
    right; omega
end
structure OutI {α : Type} (enc : α → Value) (h1 : ∀ x, (enc x).oneCell' = true) (T e n₀ : Nat) (w0 : World) (Bo : Nat) (pre : List α) (O : Nat → Prop) (W : World) : Prop where
 box : ∃ v, Mine Bo (.cells #[v] T (0, 0)) O W ∧ (Kd.scalar enc h1).R e W n₀ (fun k => ¬ O k) v pre
 bl : Below n₀ w0 W
 lo : ∀ k, O k → n₀ ≤ k
theorem OutI.stable {α : Type} (enc : α → Value) (h1 : ∀ x, (enc x).oneCell' = true) (T e n₀ : Nat) (w0 : World) (hn : n₀ ≤ w0.heap.size) (Bo : Nat) : Stable (OutI enc h1 T e n₀ w0 Bo) := fun s O O' W W' h hm h1' h2 => by
 obtain ⟨v, hb, hr⟩ := h.box
 have hst : Mine Bo (.cells #[v] T (0, 0)) O' W' := Mine.stable (β := Unit) (fun _ => _) (fun _ => _) () O O' W W' hb hm h1' h2
 refine ⟨⟨v, hst, ?_⟩, h.bl.trans (hm.below (Nat.le_trans hn h.bl.size) h.lo), fun k hk => (h2 k hk).elim (h.lo k) (fun x => by have := h.bl.size; omega)⟩
 refine Kd.zaz (Kd.za0 (Kd.zbM (ok := fun k => ¬ O k ∧ k < W.heap.size) (Kd.zaz (Kd.za0 hr) (fun k hk => ⟨hk.1, hk.2.2.1⟩)) (fun k hk hl => hm.block k hl hk.1))) (fun k hk => ?_)
 exact fun e => (h2 k e).elim hk.1.1 (fun x => by have := hk.1.2; omega)
theorem OutI.put {α : Type} {enc : α → Value} {h1 : ∀ x, (enc x).oneCell' = true} {T e n₀ : Nat} {w0 : World} {Bo : Nat} {pre : List α} {x : α} {O : Nat → Prop} {W W4 w1 : World} {v v1 : Value} (hTe : e ≠ T) (hn : n₀ ≤ w0.heap.size) (hB : n₀ ≤ Bo)
  (hl : ∀ k, O k → k < W.heap.size) (hm : Mine Bo (.cells #[v] T (0, 0)) O W) (hr : (Kd.scalar enc h1).R e W n₀ (fun k => ¬ O k) v pre) (hb : Below n₀ w0 W) (hlo : ∀ k, O k → n₀ ≤ k)
  (hmv : Mv (fun _ => False) W W4) (hr1 : (Kd.scalar enc h1).R e w1 n₀ (fun k => ¬ O k ∨ W4.heap.size ≤ k) v1 (pre ++ [x])) (hg : W4.grownBy w1 v.ownBlock) :
  Mv (fun k => ¬ (O k ∨ k < n₀)) W (w1.setCell ⟨Bo, 0, none⟩ v1) ∧ OutI enc h1 T e n₀ w0 Bo (pre ++ [x]) O (w1.setCell ⟨Bo, 0, none⟩ v1) := by
 have hrow : ∀ k, v.ownBlock = some k → ¬ O k ∧ n₀ ≤ k := fun k hk => by
  have := (Kd.za0 hr).1 k hk
  exact ⟨this.1, this.2.1⟩
 have hmv1 : Mv (fun k => ¬ (O k ∨ k < n₀)) W W4 := hmv.mono (fun _ _ h => h.elim)
 have hmv2 := hmv1.grown hg (fun k e => .inl (fun h => h.elim (hrow k e).1 (fun h => by have := (hrow k e).2; omega)))
 have hBo4 := hmv.at hm.1 (fun h => h)
 have hne : some Bo ≠ v.ownBlock := Kd.R_ne hr hm.1 hTe
 have hBo1 : w1.heap[Bo]? = some (.cells #[v] T (0, 0)) := (hg.block Bo (zam hBo4) hne).trans hBo4
 have hmv3 := hmv2.setCell (p := ⟨Bo, 0, none⟩) (.inl (fun h => h.elim hm.2 (fun h => by simp at h; omega))) v1
 refine ⟨hmv3, ⟨v1, ⟨by simpa using zbo hBo1 0 v1, hm.2⟩, ?_⟩, hb.trans (hmv3.below (Nat.le_trans hn hb.size) (fun k h => Nat.not_lt.1 (fun h' => h (.inr h')))), hlo⟩
 refine Kd.R_set (Kd.zaz hr1 (fun k hk => ?_)) hBo1 (fun q hq => ?_) 0 v1
 ·
  rcases hk with hk | hk
  ·
   exact hk
  ·
   exact fun h => by have := hl k h; have := hmv.size; omega
 ·
  simp [Kd.scalar] at hq
  rw [hq]; exact hTe
theorem zb1 {P : Program} {fn : Func} {p : Tmp} {ty : TypeId} (h : fn.results = #[.cell p ty]) (tmps : Array Value) (w : World) (g : Nat) (t : TypeId) (v : Value) (e : TypeId)
  (hp : tmps.getD p undef = .pointer (some ⟨g, 0, none⟩)) (hg : w.heap[g]? = some (.cells #[v] t (0, 0))) (hu : P.underlying ty = some (.slice e)) : (results fn tmps).run P w = .ok v w := by
 have hp' : tmps[p]?.getD undef = .pointer (some ⟨g, 0, none⟩) := by simpa using hp
 have hc := zah hg 0
 simp only [List.getElem?_toArray, List.getElem?_cons_zero] at hc
 have ha : (isAgg ty).run P w = .ok false w := by simp [isAgg, go_sem, run_underlying hu]
 simp [results, h, hp', asAddr, go_sem, hu, hc, ha]
theorem zcn {P : Program} {fn : Func} {p1 : Tmp} {ty1 : TypeId} (h : fn.results = #[.cell p1 ty1]) (tmps : Array Value) (w : World) (a1 : Addr) (v1 : Value)
  (h1 : tmps.getD p1 undef = .pointer (some a1)) (l1 : (loadVar ty1 a1).run P w = .ok v1 w) : (results fn tmps).run P w = .ok v1 w := by
 have h1' : tmps[p1]?.getD undef = .pointer (some a1) := by simpa using h1
 simp [results, h, h1', asAddr, l1]
end Go.Proofs.YtfhgmebhdchegaaDoorRF
end

section
namespace Go.Proofs.YtfhgmebhdchegaaDoorTab
open Go.RowKit Go.Proofs.YtfhgmebhdchegaaDoor.PAll Go.Proofs.YtfhgmebhdchegaaDoorW.zai Go.Proofs.YtfhgmebhdchegaaDoorW.zas Go.Proofs.YtfhgmebhdchegaaDoorRF Go.Proofs.YtfhgmebhdchegaaDoorRG Go.Proofs.YtfhgmebhdchegaaDoorWords
attribute [local go_sem] Oper.semAt_some
def lookF (t : List (S43)) (mb : ByteArray → List (S84)) : Nat → Nat → Int
 | 0, i => zfo t i
 | 1, i => zfp t i
 | _, i => ownF t (mb (clsAt t i).f1) i
def scanL (f : Nat → Int) : List Nat → Option Nat
 | [] => none
 | i :: r => if f i = 0 then scanL f r else some i
def zcv (t : List (S43)) (mb : ByteArray → List (S84)) : List Nat → Int × Nat
 | [] => (0, 0)
 | k :: r => match scanL (lookF t mb k) (List.range t.length) with
  | some i => (lookF t mb k i, i)
  | none => zcv t mb r
def zc8 (t : List (S43)) (mb : ByteArray → List (S84)) : Int × Nat := if 40 < t.length then (12, 40) else zcv t mb [0, 1, 2]
def stepL (f : Nat → Int) (o : Option Nat) (x : Int × Nat) : Int × Nat := match o with
 | some i => (f i, i)
 | none => x
theorem zf3 (t : List (S43)) (mb : ByteArray → List (S84)) (k : Nat) (h : k < 3) : zcv t mb ([0, 1, 2].drop k) = stepL (lookF t mb k) (scanL (lookF t mb k) (List.range t.length)) (zcv t mb ([0, 1, 2].drop (k + 1))) := by
 rcases (by omega : k = 0 ∨ k = 1 ∨ k = 2) with rfl | rfl | rfl <;> rfl
theorem zek (f : Nat → Int) (n j : Nat) (h : j < n) : scanL f ((List.range n).drop j) = if f j = 0 then scanL f ((List.range n).drop (j + 1)) else some j := by
 rw [List.drop_eq_getElem_cons (by simpa using h)]
 simp only [List.getElem_range]
 rfl
def lookN : Nat → Nat
 | 0 => 24
 | 1 => 25
 | _ => 26
structure FitsT (t : List (S43)) (mb : ByteArray → List (S84)) : Prop where
 small : Small t
 cls : ∀ i, i < t.length → Fits (clsAt t i)
 fd : ∀ i, i < t.length → (zbH t (clsAt t i).f1).length < 4398046511104
 mb : ∀ i, i < t.length → (mb (clsAt t i).f1).length < 4398046511104
theorem zfQ (w0 w : World) (kb : Nat) (ad : Addr) (c0 : Nat) (t : List (S43)) (i : Nat) (v2 v3 : Value) (mb : ByteArray → List (S84)) (h0 : Tab0 w0 ad c0 t i)
  (hat : w.heap[kb]? = some (.cells #[.slice (some ad) t.length c0, .int .i64 (i : Int), v2, v3] 58 (0, 0))) (hbl : Below w0.heap.size w0 w) (hkb : w0.heap.size ≤ kb)
  (hM : zdj (some ad) c0 t (clsAt t i).f1 (mb (clsAt t i).f1) w0) (hf : FitsT t mb) (k : Nat) :
  Calls Tryd.prog (lookN k) #[.pointer (some ⟨kb, 0, none⟩)] w fun e w' => e = .returned (.int .i64 (lookF t mb k i)) ∧ (∃ v2' v3', w'.heap[kb]? = some (.cells #[.slice (some ad) t.length c0, .int .i64 (i : Int), v2', v3'] 58 (0, 0))) ∧ Below w0.heap.size w0 w' ∧ (k < 2 → Below w.heap.size w w') := by
 have hc : Chk w kb (some ad) c0 t i v2 v3 := ⟨hat, Kd.zay h0.tab hbl, h0.lt, h0.max⟩
 have hfi := hf.cls i h0.lt
 match k with
 | 0 =>
  refine (ze5 kb (some ad) c0 t i v2 v3 w hc hfi.nm (by have := hfi.ml; omega) (by have := hfi.fl; omega)).mono ?_
  rintro e w' ⟨rfl, hb⟩
  exact ⟨rfl, ⟨_, _, (hb.block kb (zam hat)).trans hat⟩, hbl.trans (hb.mono hbl.size), fun _ => hb⟩
 | 1 =>
  refine (zeQ kb (some ad) c0 t i v2 v3 w hc).mono ?_
  rintro e w' ⟨rfl, hb⟩
  exact ⟨rfl, ⟨_, _, (hb.block kb (zam hat)).trans hat⟩, hbl.trans (hb.mono hbl.size), fun _ => hb⟩
 | k + 2 =>
  refine (zfS w0 w kb ad c0 t i v2 v3 (mb (clsAt t i).f1) h0 hat hbl hkb hM (hf.mb i h0.lt) hf.small (hf.fd i h0.lt) hfi).mono ?_
  rintro e w' ⟨rfl, h1, h2⟩
  exact ⟨rfl, h1, h2, fun h => absurd h o9⟩
theorem ze2 (A0 : Option Addr) (c0 : Nat) (t : List (S43)) (mb : ByteArray → List (S84)) (w : World) (hr0 : Kd.C k43 w A0 t.length t)
  (hM : ∀ i, i < t.length → zdj A0 c0 t (clsAt t i).f1 (mb (clsAt t i).f1) w) (hf : FitsT t mb) (hG : GW w) :
  Calls Tryd.prog 12 #[.slice A0 t.length c0] w fun e w' => e = .returned (.agg #[.int .i64 (zc8 t mb).1, .int .i64 ((zc8 t mb).2 : Int)]) ∧ Below w.heap.size w w' := by
 obtain ⟨R, hR⟩ : ∃ R, R = zc8 t mb := ⟨_, rfl⟩
 have HF := zaa.mk hR
 rw [← hR]
 unfold zc8 at HF
 have hu := Tryd.underlying58
 have hu2 := Tryd.underlying30
 have hmf : ∀ (fn : Fn) (first cap : Array Value) (w : World), (Instr.makeFunc fn first cap).run Tryd.prog w = .ok (.func fn first cap) w := fun _ _ _ _ => rfl
 clear hR
 go_enter Tryd.func12, Tryd.ntmps12
 have h0w := at_new w (.cells #[.int .i64 0, .int .i64 0] 30) rfl
 by_cases h40 : 40 < t.length
 ·
  rw [if_pos h40] at HF
  go_wp2_with fail
  refine bodyPost_ret (zcn rfl _ _ _ _ rfl (run_loadVar_row _ _ _ _ _ _ _ (at_new _ _ rfl) Tryd.underlying30 rfl k9)) rfl ?_
  exact ⟨by rw [HF.out]; rfl, (Below.refl _ _).alloc (Nat.le_refl _) _⟩
 ·
  rw [if_neg h40] at HF
  obtain ⟨w1, hw1⟩ : ∃ w1, w1 = w.alloc (.cells #[.int .i64 0, .int .i64 0] 30) := ⟨_, rfl⟩
  have hs1 : w1.heap.size = w.heap.size + 1 := by rw [hw1]; simp
  have hb1 : Below w.heap.size w w1 := by rw [hw1]; exact (Below.refl _ _).alloc (Nat.le_refl _) _
  rw [← hw1] at h0w
  obtain ⟨W3, hW3⟩ : ∃ W3, W3 = (w1.alloc (.cells #[.slice A0 t.length c0, .int .i64 0, .slice none 0 0, .slice none 0 0] 58)).alloc (.cells #[Value.func (Fn.func 24) #[Value.pointer (some ⟨w.heap.size + 1, 0, none⟩)] #[], Value.func (Fn.func 25) #[Value.pointer (some ⟨w.heap.size + 1, 0, none⟩)] #[], Value.func (Fn.func 26) #[Value.pointer (some ⟨w.heap.size + 1, 0, none⟩)] #[]] 59) := ⟨_, rfl⟩
  have hk3 : W3.heap[w.heap.size + 1]? = some (.cells #[.slice A0 t.length c0, .int .i64 ((0 : Int)), .slice none 0 0, .slice none 0 0] 58 (0, 0)) := by rw [hW3]; exact zaI (at_new _ _ hs1.symm) _
  have hf3 : W3.heap[w.heap.size + 1 + 1]? = some (.cells #[Value.func (Fn.func 24) #[Value.pointer (some ⟨w.heap.size + 1, 0, none⟩)] #[], Value.func (Fn.func 25) #[Value.pointer (some ⟨w.heap.size + 1, 0, none⟩)] #[], Value.func (Fn.func 26) #[Value.pointer (some ⟨w.heap.size + 1, 0, none⟩)] #[]] 59 (0, 0)) := by rw [hW3]; exact at_new _ _ (by simp [hs1])
  have hbl3 : Below w1.heap.size w1 W3 := by rw [hW3]; exact ((Below.refl _ _).alloc (Nat.le_refl _) _).alloc s9 _
  have H0 := zaa.mk h0w
  have HS1 := zaa.mk hs1
  have HB1 := zaa.mk hb1
  have HK3 := zaa.mk hk3
  have HF3 := zaa.mk hf3
  have HBL3 := zaa.mk hbl3
  have HLK := zaa.mk (show ∀ (k j : Nat) (W : World) (v2 v3 : Value), j < t.length → W.heap[w.heap.size + 1]? = some (.cells #[.slice A0 t.length c0, .int .i64 (j : Int), v2, v3] 58 (0, 0)) → Below w1.heap.size w1 W →
    Calls Tryd.prog (lookN k) #[.pointer (some ⟨w.heap.size + 1, 0, none⟩)] W fun e w' => e = .returned (.int .i64 (lookF t mb k j)) ∧ (∃ v2' v3', w'.heap[w.heap.size + 1]? = some (.cells #[.slice A0 t.length c0, .int .i64 (j : Int), v2', v3'] 58 (0, 0))) ∧ Below w1.heap.size w1 w' ∧ (k < 2 → Below W.heap.size W w') from fun k j W v2 v3 hj hat hbl => by
   obtain ⟨ad, _, _, _, _, hA, _⟩ := zb0 hr0 (j : Int) o9 o9
   subst hA
   exact zfQ w1 W (w.heap.size + 1) ad c0 t j v2 v3 mb ⟨Kd.zay hr0 hb1, hj, hf.small.all, hG.below hb1⟩ hat hbl o9 ((hM j hj).below hb1) hf k)
  clear h0w hs1 hb1 hk3 hf3 hbl3 hr0 hM hG hf
  go_wp2_with fail
  rw [← hw1, ← hW3]
  clear hW3 hw1
  go_loopw [22] (fun v22 wr => ∃ k : Nat, k ≤ 3 ∧ v22 = .int .i64 (k : Int) ∧ zaa (zcv t mb ([0, 1, 2].drop k) = R ∧ (∃ (i : Int) (v2 v3 : Value), wr.heap[w.heap.size + 1]? = some (.cells #[.slice A0 t.length c0, .int .i64 i, v2, v3] 58 (0, 0))) ∧ Below w1.heap.size w1 wr ∧ (k < 3 → wr.heap[w.heap.size + 1 + 1]? = some (.cells #[Value.func (Fn.func 24) #[Value.pointer (some ⟨w.heap.size + 1, 0, none⟩)] #[], Value.func (Fn.func 25) #[Value.pointer (some ⟨w.heap.size + 1, 0, none⟩)] #[], Value.func (Fn.func 26) #[Value.pointer (some ⟨w.heap.size + 1, 0, none⟩)] #[]] 59 (0, 0))))) (fun v22 _ => 3 - (intOf v22).toNat)
  case atStart => exact ⟨0, by omega, rfl, ⟨HF.out.symm, ⟨_, _, _, HK3.out⟩, HBL3.out, fun _ => HF3.out⟩⟩
  case round =>
   obtain ⟨k, hk, rfl, ⟨hI, hat, hbl, hfn⟩⟩ := hrel
   by_cases hlt : k < 3
   ·
    obtain ⟨SC, hSC⟩ : ∃ SC, SC = scanL (lookF t mb k) (List.range t.length) := ⟨_, rfl⟩
    have hI2 : stepL (lookF t mb k) SC (zcv t mb ([0, 1, 2].drop (k + 1))) = R := by
     rw [← hI, hSC, zf3 t mb k hlt]
    have HSC := zaa.mk hSC.symm
    have HI2 := zaa.mk hI2
    have HFN := zaa.mk (hfn hlt)
    have HAT := zaa.mk hat
    have HBL := zaa.mk hbl
    have HK := zaa.mk (HLK.out k)
    clear hI hI2 hfn hat hbl hSC
    have gf0 := zah HFN.out 0
    have gf1 := zah HFN.out 1
    have gf2 := zah HFN.out 2
    simp only [ga] at gf0 gf1 gf2
    rcases (by omega : k = 0 ∨ k = 1 ∨ k = 2) with rfl | rfl | rfl
    ·
     rw [show (((0 : Nat)) : Int) = (0 : Int) from rfl]
     go_wp2_with fail
     rename World => wo
     go_loopw [28] (fun v28 wr => ∃ j : Nat, j ≤ t.length ∧ v28 = .int .i64 (j : Int) ∧ zaa (scanL (lookF t mb 0) ((List.range t.length).drop j) = SC ∧ (∃ (i : Int) (v2 v3 : Value), wr.heap[w.heap.size + 1]? = some (.cells #[.slice A0 t.length c0, .int .i64 i, v2, v3] 58 (0, 0))) ∧ Below w1.heap.size w1 wr ∧ (0 < 2 → wr.heap[w.heap.size + 1 + 1]? = some (.cells #[Value.func (Fn.func 24) #[Value.pointer (some ⟨w.heap.size + 1, 0, none⟩)] #[], Value.func (Fn.func 25) #[Value.pointer (some ⟨w.heap.size + 1, 0, none⟩)] #[], Value.func (Fn.func 26) #[Value.pointer (some ⟨w.heap.size + 1, 0, none⟩)] #[]] 59 (0, 0))))) (fun v28 _ => t.length - (intOf v28).toNat)
     case atStart => exact ⟨0, Nat.zero_le _, rfl, ⟨HSC.out, HAT.out, HBL.out, fun _ => HFN.out⟩⟩
     case round =>
      obtain ⟨j, hj, rfl, ⟨hS, ⟨i, v2, v3, hat⟩, hbl, hfn⟩⟩ := hrel
      clear HAT HBL HFN gf0 gf1 gf2
      by_cases hjl : j < t.length
      ·
       have hsc := zek (lookF t mb 0) t.length j hjl
       rw [hS] at hsc
       have ha' : (wr.setCell ⟨w.heap.size + 1, 1, none⟩ (.int .i64 (j : Int))).heap[w.heap.size + 1]? = some (.cells #[.slice A0 t.length c0, .int .i64 (j : Int), v2, v3] 58 (0, 0)) := zbo hat 1 (.int .i64 (j : Int))
       have gi := zah hat 1
       have fi := free_at hat 1
       simp only [ga] at gi
       have hbl' : Below w1.heap.size w1 (wr.setCell ⟨w.heap.size + 1, 1, none⟩ (.int .i64 (j : Int))) := hbl.setCell (p := ⟨w.heap.size + 1, 1, none⟩) (by rw [HS1.out]; exact Nat.le_refl _) _
       have hfn' : 0 < 2 → (wr.setCell ⟨w.heap.size + 1, 1, none⟩ (.int .i64 (j : Int))).heap[w.heap.size + 1 + 1]? = some (.cells #[Value.func (Fn.func 24) #[Value.pointer (some ⟨w.heap.size + 1, 0, none⟩)] #[], Value.func (Fn.func 25) #[Value.pointer (some ⟨w.heap.size + 1, 0, none⟩)] #[], Value.func (Fn.func 26) #[Value.pointer (some ⟨w.heap.size + 1, 0, none⟩)] #[]] 59 (0, 0)) := fun h => at_set (hfn h) (p := ⟨w.heap.size + 1, 1, none⟩) s9 _
       have HC := zaa.mk (HK.out j _ v2 v3 hjl ha' hbl')
       obtain ⟨E2, hE2⟩ : ∃ E2, E2 = lookF t mb 0 j := ⟨_, rfl⟩
       rw [← hE2] at HC hsc
       have HSC2 := zaa.mk hsc
       have HFN2 := zaa.mk hfn'
       have HE2 := zaa.mk hE2
       clear hS hat hbl hfn hsc ha' hbl' hfn' hE2
       go_wp2_with fail
       refine HC.out.mono ?_
       rintro e w3 ⟨rfl, ⟨u2, u3, hat3⟩, hbl3, hp⟩
       have HAT3 := zaa.mk hat3
       have HB3 := zaa.mk hbl3
       have HP3 := zaa.mk hp
       clear hat3 hbl3 hp HC gi fi
       by_cases hE : E2 = 0
       ·
        rw [if_pos hE] at HSC2
        clear HE2
        subst hE
        go_wp2_with fail
        go_roundw
        case rel => exact ⟨j + 1, by omega, by go_num, ⟨HSC2.out.symm, ⟨_, u2, u3, HAT3.out⟩, HB3.out, fun h => ((HP3.out h).block _ (zam (HFN2.out h))).trans (HFN2.out h)⟩⟩
        case measure => simp [intOf]; omega
       ·
        rw [if_neg hE] at HSC2
        have HRR := zaa.mk (show R = (E2, j) from by rw [← HI2.out, HSC2.out, HE2.out]; rfl)
        have hres := (HB3.out.block _ (zam H0.out)).trans H0.out
        have r0 := zah hres 0
        have f0 := free_at hres 0
        have r1 := zah (zbo hres 0 (.int .i64 E2)) 1
        have f1 := free_at (zbo hres 0 (.int .i64 E2)) 1
        have ki := zah HAT3.out 1
        simp only [ga] at r0 r1 ki
        have HRS := zaa.mk hres
        clear hres HE2
        go_wp2_with fail
        refine bodyPost_ret (zcn rfl _ _ _ _ rfl (run_loadVar_row _ _ _ _ _ _ _ (zbo (zbo HRS.out 0 _) 1 _) Tryd.underlying30 rfl k9)) rfl ?_
        exact ⟨by rw [HRR.out]; rfl, (HB1.out.trans (HB3.out.mono HB1.out.size)).setCell (p := ⟨w.heap.size, 0, none⟩) (Nat.le_refl _) _ |>.setCell (p := ⟨w.heap.size, 1, none⟩) (Nat.le_refl _) _⟩
      ·
       have hj2 : j = t.length := by omega
       subst hj2
       have hS0 : SC = none := by rw [← hS, List.drop_eq_nil_of_le s9]; rfl
       subst hS0
       have HI3 := zaa.mk (show zcv t mb ([0, 1, 2].drop (0 + 1)) = R from HI2.out)
       have HAT := zaa.mk hat
       have HBL := zaa.mk hbl
       have HFN2 := zaa.mk hfn
       clear hS hat hbl hfn
       go_wp2_with fail
       go_roundw
       case rel => exact ⟨0 + 1, by omega, by go_num, ⟨HI3.out, ⟨_, _, _, HAT.out⟩, HBL.out, fun h => HFN2.out o9⟩⟩
       case measure => simp [intOf]
    ·
     rw [show (((1 : Nat)) : Int) = (1 : Int) from rfl]
     go_wp2_with fail
     rename World => wo
     go_loopw [28] (fun v28 wr => ∃ j : Nat, j ≤ t.length ∧ v28 = .int .i64 (j : Int) ∧ zaa (scanL (lookF t mb 1) ((List.range t.length).drop j) = SC ∧ (∃ (i : Int) (v2 v3 : Value), wr.heap[w.heap.size + 1]? = some (.cells #[.slice A0 t.length c0, .int .i64 i, v2, v3] 58 (0, 0))) ∧ Below w1.heap.size w1 wr ∧ (1 < 2 → wr.heap[w.heap.size + 1 + 1]? = some (.cells #[Value.func (Fn.func 24) #[Value.pointer (some ⟨w.heap.size + 1, 0, none⟩)] #[], Value.func (Fn.func 25) #[Value.pointer (some ⟨w.heap.size + 1, 0, none⟩)] #[], Value.func (Fn.func 26) #[Value.pointer (some ⟨w.heap.size + 1, 0, none⟩)] #[]] 59 (0, 0))))) (fun v28 _ => t.length - (intOf v28).toNat)
     case atStart => exact ⟨0, Nat.zero_le _, rfl, ⟨HSC.out, HAT.out, HBL.out, fun _ => HFN.out⟩⟩
     case round =>
      obtain ⟨j, hj, rfl, ⟨hS, ⟨i, v2, v3, hat⟩, hbl, hfn⟩⟩ := hrel
      clear HAT HBL HFN gf0 gf1 gf2
      by_cases hjl : j < t.length
      ·
       have hsc := zek (lookF t mb 1) t.length j hjl
       rw [hS] at hsc
       have ha' : (wr.setCell ⟨w.heap.size + 1, 1, none⟩ (.int .i64 (j : Int))).heap[w.heap.size + 1]? = some (.cells #[.slice A0 t.length c0, .int .i64 (j : Int), v2, v3] 58 (0, 0)) := zbo hat 1 (.int .i64 (j : Int))
       have gi := zah hat 1
       have fi := free_at hat 1
       simp only [ga] at gi
       have hbl' : Below w1.heap.size w1 (wr.setCell ⟨w.heap.size + 1, 1, none⟩ (.int .i64 (j : Int))) := hbl.setCell (p := ⟨w.heap.size + 1, 1, none⟩) (by rw [HS1.out]; exact Nat.le_refl _) _
       have hfn' : 1 < 2 → (wr.setCell ⟨w.heap.size + 1, 1, none⟩ (.int .i64 (j : Int))).heap[w.heap.size + 1 + 1]? = some (.cells #[Value.func (Fn.func 24) #[Value.pointer (some ⟨w.heap.size + 1, 0, none⟩)] #[], Value.func (Fn.func 25) #[Value.pointer (some ⟨w.heap.size + 1, 0, none⟩)] #[], Value.func (Fn.func 26) #[Value.pointer (some ⟨w.heap.size + 1, 0, none⟩)] #[]] 59 (0, 0)) := fun h => at_set (hfn h) (p := ⟨w.heap.size + 1, 1, none⟩) s9 _
       have HC := zaa.mk (HK.out j _ v2 v3 hjl ha' hbl')
       obtain ⟨E2, hE2⟩ : ∃ E2, E2 = lookF t mb 1 j := ⟨_, rfl⟩
       rw [← hE2] at HC hsc
       have HSC2 := zaa.mk hsc
       have HFN2 := zaa.mk hfn'
       have HE2 := zaa.mk hE2
       clear hS hat hbl hfn hsc ha' hbl' hfn' hE2
       go_wp2_with fail
       refine HC.out.mono ?_
       rintro e w3 ⟨rfl, ⟨u2, u3, hat3⟩, hbl3, hp⟩
       have HAT3 := zaa.mk hat3
       have HB3 := zaa.mk hbl3
       have HP3 := zaa.mk hp
       clear hat3 hbl3 hp HC gi fi
       by_cases hE : E2 = 0
       ·
        rw [if_pos hE] at HSC2
        clear HE2
        subst hE
        go_wp2_with fail
        go_roundw
        case rel => exact ⟨j + 1, by omega, by go_num, ⟨HSC2.out.symm, ⟨_, u2, u3, HAT3.out⟩, HB3.out, fun h => ((HP3.out h).block _ (zam (HFN2.out h))).trans (HFN2.out h)⟩⟩
        case measure => simp [intOf]; omega
       ·
        rw [if_neg hE] at HSC2
        have HRR := zaa.mk (show R = (E2, j) from by rw [← HI2.out, HSC2.out, HE2.out]; rfl)
        have hres := (HB3.out.block _ (zam H0.out)).trans H0.out
        have r0 := zah hres 0
        have f0 := free_at hres 0
        have r1 := zah (zbo hres 0 (.int .i64 E2)) 1
        have f1 := free_at (zbo hres 0 (.int .i64 E2)) 1
        have ki := zah HAT3.out 1
        simp only [ga] at r0 r1 ki
        have HRS := zaa.mk hres
        clear hres HE2
        go_wp2_with fail
        refine bodyPost_ret (zcn rfl _ _ _ _ rfl (run_loadVar_row _ _ _ _ _ _ _ (zbo (zbo HRS.out 0 _) 1 _) Tryd.underlying30 rfl k9)) rfl ?_
        exact ⟨by rw [HRR.out]; rfl, (HB1.out.trans (HB3.out.mono HB1.out.size)).setCell (p := ⟨w.heap.size, 0, none⟩) (Nat.le_refl _) _ |>.setCell (p := ⟨w.heap.size, 1, none⟩) (Nat.le_refl _) _⟩
      ·
       have hj2 : j = t.length := by omega
       subst hj2
       have hS0 : SC = none := by rw [← hS, List.drop_eq_nil_of_le s9]; rfl
       subst hS0
       have HI3 := zaa.mk (show zcv t mb ([0, 1, 2].drop (1 + 1)) = R from HI2.out)
       have HAT := zaa.mk hat
       have HBL := zaa.mk hbl
       have HFN2 := zaa.mk hfn
       clear hS hat hbl hfn
       go_wp2_with fail
       go_roundw
       case rel => exact ⟨1 + 1, by omega, by go_num, ⟨HI3.out, ⟨_, _, _, HAT.out⟩, HBL.out, fun h => HFN2.out o9⟩⟩
       case measure => simp [intOf]
    ·
     rw [show (((2 : Nat)) : Int) = (2 : Int) from rfl]
     go_wp2_with fail
     rename World => wo
     go_loopw [28] (fun v28 wr => ∃ j : Nat, j ≤ t.length ∧ v28 = .int .i64 (j : Int) ∧ zaa (scanL (lookF t mb 2) ((List.range t.length).drop j) = SC ∧ (∃ (i : Int) (v2 v3 : Value), wr.heap[w.heap.size + 1]? = some (.cells #[.slice A0 t.length c0, .int .i64 i, v2, v3] 58 (0, 0))) ∧ Below w1.heap.size w1 wr ∧ (2 < 2 → wr.heap[w.heap.size + 1 + 1]? = some (.cells #[Value.func (Fn.func 24) #[Value.pointer (some ⟨w.heap.size + 1, 0, none⟩)] #[], Value.func (Fn.func 25) #[Value.pointer (some ⟨w.heap.size + 1, 0, none⟩)] #[], Value.func (Fn.func 26) #[Value.pointer (some ⟨w.heap.size + 1, 0, none⟩)] #[]] 59 (0, 0))))) (fun v28 _ => t.length - (intOf v28).toNat)
     case atStart => exact ⟨0, Nat.zero_le _, rfl, ⟨HSC.out, HAT.out, HBL.out, fun _ => HFN.out⟩⟩
     case round =>
      obtain ⟨j, hj, rfl, ⟨hS, ⟨i, v2, v3, hat⟩, hbl, hfn⟩⟩ := hrel
      clear HAT HBL HFN gf0 gf1 gf2
      by_cases hjl : j < t.length
      ·
       have hsc := zek (lookF t mb 2) t.length j hjl
       rw [hS] at hsc
       have ha' : (wr.setCell ⟨w.heap.size + 1, 1, none⟩ (.int .i64 (j : Int))).heap[w.heap.size + 1]? = some (.cells #[.slice A0 t.length c0, .int .i64 (j : Int), v2, v3] 58 (0, 0)) := zbo hat 1 (.int .i64 (j : Int))
       have gi := zah hat 1
       have fi := free_at hat 1
       simp only [ga] at gi
       have hbl' : Below w1.heap.size w1 (wr.setCell ⟨w.heap.size + 1, 1, none⟩ (.int .i64 (j : Int))) := hbl.setCell (p := ⟨w.heap.size + 1, 1, none⟩) (by rw [HS1.out]; exact Nat.le_refl _) _
       have hfn' : 2 < 2 → (wr.setCell ⟨w.heap.size + 1, 1, none⟩ (.int .i64 (j : Int))).heap[w.heap.size + 1 + 1]? = some (.cells #[Value.func (Fn.func 24) #[Value.pointer (some ⟨w.heap.size + 1, 0, none⟩)] #[], Value.func (Fn.func 25) #[Value.pointer (some ⟨w.heap.size + 1, 0, none⟩)] #[], Value.func (Fn.func 26) #[Value.pointer (some ⟨w.heap.size + 1, 0, none⟩)] #[]] 59 (0, 0)) := fun h => at_set (hfn h) (p := ⟨w.heap.size + 1, 1, none⟩) s9 _
       have HC := zaa.mk (HK.out j _ v2 v3 hjl ha' hbl')
       obtain ⟨E2, hE2⟩ : ∃ E2, E2 = lookF t mb 2 j := ⟨_, rfl⟩
       rw [← hE2] at HC hsc
       have HSC2 := zaa.mk hsc
       have HFN2 := zaa.mk hfn'
       have HE2 := zaa.mk hE2
       clear hS hat hbl hfn hsc ha' hbl' hfn' hE2
       go_wp2_with fail
       refine HC.out.mono ?_
       rintro e w3 ⟨rfl, ⟨u2, u3, hat3⟩, hbl3, hp⟩
       have HAT3 := zaa.mk hat3
       have HB3 := zaa.mk hbl3
       have HP3 := zaa.mk hp
       clear hat3 hbl3 hp HC gi fi
       by_cases hE : E2 = 0
       ·
        rw [if_pos hE] at HSC2
        clear HE2
        subst hE
        go_wp2_with fail
        go_roundw
        case rel => exact ⟨j + 1, by omega, by go_num, ⟨HSC2.out.symm, ⟨_, u2, u3, HAT3.out⟩, HB3.out, fun h => ((HP3.out h).block _ (zam (HFN2.out h))).trans (HFN2.out h)⟩⟩
        case measure => simp [intOf]; omega
       ·
        rw [if_neg hE] at HSC2
        have HRR := zaa.mk (show R = (E2, j) from by rw [← HI2.out, HSC2.out, HE2.out]; rfl)
        have hres := (HB3.out.block _ (zam H0.out)).trans H0.out
        have r0 := zah hres 0
        have f0 := free_at hres 0
        have r1 := zah (zbo hres 0 (.int .i64 E2)) 1
        have f1 := free_at (zbo hres 0 (.int .i64 E2)) 1
        have ki := zah HAT3.out 1
        simp only [ga] at r0 r1 ki
        have HRS := zaa.mk hres
        clear hres HE2
        go_wp2_with fail
        refine bodyPost_ret (zcn rfl _ _ _ _ rfl (run_loadVar_row _ _ _ _ _ _ _ (zbo (zbo HRS.out 0 _) 1 _) Tryd.underlying30 rfl k9)) rfl ?_
        exact ⟨by rw [HRR.out]; rfl, (HB1.out.trans (HB3.out.mono HB1.out.size)).setCell (p := ⟨w.heap.size, 0, none⟩) (Nat.le_refl _) _ |>.setCell (p := ⟨w.heap.size, 1, none⟩) (Nat.le_refl _) _⟩
      ·
       have hj2 : j = t.length := by omega
       subst hj2
       have hS0 : SC = none := by rw [← hS, List.drop_eq_nil_of_le s9]; rfl
       subst hS0
       have HI3 := zaa.mk (show zcv t mb ([0, 1, 2].drop (2 + 1)) = R from HI2.out)
       have HAT := zaa.mk hat
       have HBL := zaa.mk hbl
       have HFN2 := zaa.mk hfn
       clear hS hat hbl hfn
       go_wp2_with fail
       go_roundw
       case rel => exact ⟨2 + 1, by omega, by go_num, ⟨HI3.out, ⟨_, _, _, HAT.out⟩, HBL.out, fun h => HFN2.out o9⟩⟩
       case measure => simp [intOf]
   ·
    have hk3 : k = 3 := by omega
    subst hk3
    have HAT := zaa.mk hat
    have HBL := zaa.mk hbl
    have HR := zaa.mk (show ((0 : Int), (0 : Nat)) = R from hI)
    have hres := (hbl.block _ (zam H0.out)).trans H0.out
    have r0 := zah hres 0
    have f0 := free_at hres 0
    have r1 := zah (zbo hres 0 (.int .i64 0)) 1
    have f1 := free_at (zbo hres 0 (.int .i64 0)) 1
    simp only [ga] at r0 r1
    have HRS := zaa.mk hres
    clear hI hat hbl hfn hres
    go_wp2_with fail
    refine bodyPost_ret (zcn rfl _ _ _ _ rfl (run_loadVar_row _ _ _ _ _ _ _ (zbo (zbo HRS.out 0 _) 1 _) Tryd.underlying30 rfl k9)) rfl ?_
    exact ⟨by rw [← HR.out]; rfl, (HB1.out.trans (HBL.out.mono HB1.out.size)).setCell (p := ⟨w.heap.size, 0, none⟩) (Nat.le_refl _) _ |>.setCell (p := ⟨w.heap.size, 1, none⟩) (Nat.le_refl _) _⟩
end Go.Proofs.YtfhgmebhdchegaaDoorTab
end

section
namespace Go.Proofs.YtfhgmebhdchegaaDoorTab
open Go.RowKit
theorem own0 : ownKnob Tryd.prog.godebug = none := by kernel_rfl
abbrev laidL : List (String × DataW Unit) := [("unicode/utf8.acceptRanges", Go.Proofs.YtfhgmebhdchegaaDoor.Rows.laid_unicode_utf8_acceptRanges), ("unicode.White_Space", Go.Proofs.YtfhgmebhdchegaaDoor.Rows.laid_unicode_White_Space), ("strings.asciiSpace", Go.Proofs.YtfhgmebhdchegaaDoor.Rows.laid_strings_asciiSpace), ("unicode/utf8.first", Go.Proofs.YtfhgmebhdchegaaDoor.Rows.laid_unicode_utf8_first)]
theorem gw_of {W : World} (h : laidMetH Tryd.prog laidL W) : GW W := by
 rw [MakeChecks.laidMetH_plain _ _ _ k9] at h
 have h1 := laidMet.filter (fun x => x.1 == "strings.asciiSpace") h
 have e : (laidL.filter fun x => x.1 == "strings.asciiSpace") = [("strings.asciiSpace", Lib.tabData .u8 ((List.range 256).map ascV))] := by kernel_rfl
 rw [e] at h1
 have hg : Tryd.prog.globalNamed "strings.asciiSpace" = some 0 := by kernel_rfl
 have h2 := Lib.tabIs_of_head (n := 256) hg (t := 147) (e := 5) k9 k9 k9 k9 k9 h1
 refine ⟨fun k hk => ?_⟩
 have h3 := h2.cell hg k (by simpa using hk)
 rw [h3, List.getD_eq_getElem?_getD, List.getElem?_map, List.getElem?_range hk]
 rfl
theorem laid_all (os : Os) (args : Array Value) : laidMetH Tryd.prog laidL ((World.laidAll Tryd.prog os laidL).forCall (fun _ _ => 0) ⟨#[], args, []⟩).memory := by
 rw [MakeChecks.laidMetH_plain _ _ _ k9]
 exact laidMet_laidAll _ k9 k9
end Go.Proofs.YtfhgmebhdchegaaDoorTab
end
