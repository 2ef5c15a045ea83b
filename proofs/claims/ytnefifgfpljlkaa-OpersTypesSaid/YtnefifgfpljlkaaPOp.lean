/- words, and lists of texts, of the reference and of the program. -/
import Derived.Test.YtnefifgfpljlkaaEv
import Derived.Test.YtnefifgfpljlkaaWords
import Derived.Test.YtnefifgfpljlkaaPAllx10
import Derived.Test.YtnefifgfpljlkaaPAllx11
import Derived.Test.YtnefifgfpljlkaaPAllx19
import Derived.Test.YtnefifgfpljlkaaPAllx20
import Derived.Test.YtnefifgfpljlkaaPAllx21
namespace Go.Proofs.Ytnefifgfpljlkaa.Pure
open Go.RowKit Go.Proofs.Ytnefifgfpljlkaa.PAll Go.Proofs.YtnefifgfpljlkaaW.PrintWords Go.Proofs.YtnefifgfpljlkaaW.PrintLast Go.Proofs.YtnefifgfpljlkaaEv Go.Proofs.YtnefifgfpljlkaaWords
set_option linter.unusedSimpArgs false
set_option linter.unusedVariables false
theorem toListInj {a b : ByteArray} (h : a.toList = b.toList) : a = b := by
  have h2 : a.data.toList = b.data.toList := by rw [Go.ByteArray.toList_eq, Go.ByteArray.toList_eq] at h; exact h
  exact ByteArray.ext (Array.toList_inj.1 h2)
theorem lit (a : Array UInt8) : (⟨a⟩ : ByteArray).toList = a.toList := by rw [Go.ByteArray.toList_eq]
theorem rdB (l : List ByteArray) (i : Nat) (h : i < l.length) : rdOf ByteArray.empty l (i : Int) = l[i] := by
  unfold rdOf
  rw [Int.toNat_natCast, List.getD_eq_getElem?_getD, List.getElem?_eq_getElem h]; rfl
theorem w1 {i n : Nat} (h : i < n) (hn : n < 4398046511104) : wrap64 ((i : Int) + 1) = ((i + 1 : Nat) : Int) := by unfold wrap64; omega
theorem in_l (l : List ByteArray) (s : ByteArray) (hl : l.length < 4398046511104) : ∀ (d i : Nat), d = l.length - i → i ≤ l.length → Evn (fun k => chaperonref04_in.l0 k l s (i : Int)) ((l.drop i).any fun x => decide (x.toList = s.toList)) := by
  intro d
  induction d with
  | zero =>
    intro i hd hi
    rw [List.drop_of_length_le (by omega)]
    exact Evn.succ (Evn.neg (by omega) (Evn.ret _))
  | succ d ih =>
    intro i hd hi
    have h : i < l.length := by omega
    rw [List.drop_eq_getElem_cons h, List.any_cons]
    by_cases he : l[i].toList = s.toList
    · exact Evn.succ (Evn.pos (by omega) (Evn.pos (by omega) (Evn.pos (by rw [rdB l i h]; exact he) ((Evn.ret _).val (by simp [he])))))
    · refine Evn.succ (Evn.pos (by omega) (Evn.pos (by omega) (Evn.neg (by rw [rdB l i h]; exact he) ?_)))
      rw [w1 h hl, show (decide (l[i].toList = s.toList) || (List.drop (i + 1) l).any fun x => decide (x.toList = s.toList)) = (List.drop (i + 1) l).any fun x => decide (x.toList = s.toList) by simp [he]]
      exact ih (i + 1) (by omega) (by omega)
theorem in_ev (l : List ByteArray) (s : ByteArray) (hl : l.length < 4398046511104) : Evn (fun k => chaperonref04_in.f k l s) (l.any fun x => decide (x.toList = s.toList)) := in_l l s hl l.length 0 rfl (Nat.zero_le _)
theorem bt_at (s : ByteArray) (i : Nat) (h : i < s.size) : bt s (i : Int) = ((s[i]'h).toNat : Int) := by unfold bt; simp [h]
theorem word_l (s : ByteArray) (hs : s.size < 4398046511104) : ∀ (d i : Nat), d = s.size - i → i ≤ s.size → Evn (fun k => chaperonref04_word.l0 k s (i : Int)) (signs s i) := by
  intro d
  induction d with
  | zero =>
    intro i hd hi
    rw [signs_end s (by omega)]
    exact Evn.succ (Evn.neg (by omega) (Evn.ret _))
  | succ d ih =>
    intro i hd hi
    have h : i < s.size := by omega
    have nx := ih (i + 1) (by omega) (by omega)
    rw [← w1 h hs] at nx
    rw [signs_at s h, sign]
    rw [← bt_at s i h]
    refine Evn.succ (Evn.pos (by omega) (Evn.pos (by omega) ?_))
    obtain ⟨c, hc⟩ : ∃ c, c = bt s (i : Int) := ⟨_, rfl⟩
    rw [← hc]
    have hsm : chaperonref04_small.f c = some (small c) := by
      unfold chaperonref04_small.f small
      by_cases h1 : 97 ≤ c
      · rw [if_pos h1]; simp [h1]
      · rw [if_neg h1]; simp [h1]
    have hgr : chaperonref04_great.f c = some (great c) := by
      unfold chaperonref04_great.f great
      by_cases h1 : 65 ≤ c
      · rw [if_pos h1]; simp [h1]
      · rw [if_neg h1]; simp [h1]
    refine Evn.cbind hsm ?_
    cases h1 : small c with
    | true => exact Evn.pos rfl (nx.val (by simp))
    | false =>
      refine Evn.neg (by decide) (Evn.cbind hgr ?_)
      cases h2 : great c with
      | true => exact Evn.pos rfl (nx.val (by simp))
      | false =>
        refine Evn.neg (by decide) ?_
        unfold digit
        by_cases h3 : c < 48
        · exact Evn.pos h3 ((Evn.ret _).val (by simp [show ¬ 48 ≤ c by omega]))
        · refine Evn.neg h3 ?_
          by_cases h4 : c > 57
          · exact Evn.pos h4 ((Evn.ret _).val (by simp [show ¬ c ≤ 57 by omega]))
          · exact Evn.neg h4 (nx.val (by simp [show 48 ≤ c by omega, show c ≤ 57 by omega]))
theorem Class_ev (s : ByteArray) (hs : s.size < 4398046511104) : Evn (fun k => chaperonref04_Class.f k s) (word great s) := by
  have hw : Evn (fun k => chaperonref04_word.f k s) (decide (0 < s.size) && decide (s.size ≤ 20) && signs s 0) := by
    by_cases h0 : (s.size : Int) < 1
    · exact Evn.pos h0 (Evn.succ (Evn.congr (g' := fun _ => some false) (fun k => by simp [chaperonref04_word.j0]) ((Evn.ret _).val (by simp [show ¬ 0 < s.size by omega]))))
    · refine Evn.neg h0 (Evn.succ ?_)
      by_cases h1 : s.size ≤ 20
      · refine Evn.neg (by simp; omega) ((word_l s hs s.size 0 (by omega) (Nat.zero_le _)).val ?_)
        simp [h1, show 0 < s.size by omega]
      · exact Evn.pos (by simp; omega) ((Evn.ret _).val (by simp [h1]))
  refine Evn.bind hw ?_
  unfold word
  by_cases hz : 0 < s.size
  · have hg : chaperonref04_great.f (bt s 0) = some (great (bt s 0)) := by
      unfold chaperonref04_great.f great
      by_cases h1 : 65 ≤ bt s 0
      · rw [if_pos h1]; simp [h1]
      · rw [if_neg h1]; simp [h1]
    cases hb : (decide (0 < s.size) && decide (s.size ≤ 20) && signs s 0) with
    | false =>
      refine Evn.neg (by decide) ((Evn.ret _).val ?_)
      have : (decide (0 < s.size) && decide (s.size ≤ 20) && great (bt s 0) && signs s 0) = ((decide (0 < s.size) && decide (s.size ≤ 20) && signs s 0) && great (bt s 0)) := by
        cases decide (0 < s.size) <;> cases decide (s.size ≤ 20) <;> cases signs s 0 <;> cases great (bt s 0) <;> rfl
      rw [this, hb]; rfl
    | true =>
      refine Evn.pos rfl (Evn.pos (by omega) (Evn.cbind hg ((Evn.ret _).val ?_)))
      have : (decide (0 < s.size) && decide (s.size ≤ 20) && great (bt s 0) && signs s 0) = ((decide (0 < s.size) && decide (s.size ≤ 20) && signs s 0) && great (bt s 0)) := by
        cases decide (0 < s.size) <;> cases decide (s.size ≤ 20) <;> cases signs s 0 <;> cases great (bt s 0) <;> rfl
      rw [this, hb]; rfl
  · rw [show decide (0 < s.size) = false by simpa using hz]
    exact Evn.neg (by simp) ((Evn.ret _).val (by simp))
/-- Of what kind a type is. -/
def kind (s : ByteArray) : Int := if tag s = 0 then (if s.toList = ([63] : List UInt8) then 2 else if word great s = true then 3 else 0) else 1
theorem words_Kind_is (s : ByteArray) (hs : s.size < 4398046511104) : words_Kind.f s = some (kind s) := by
  unfold words_Kind.f words_Base.f words_Tag.f kind tag2
  simp only [Option.bind_some]
  by_cases ht : tag s = 0
  · rw [if_pos ht, if_pos ht]
    rw [if_neg (by decide)]
    by_cases hq : s.toList = ([63] : List UInt8)
    · rw [if_pos hq, if_pos hq]
    · rw [if_neg hq, if_neg hq]
      unfold words_Class.f
      rw [if_pos (by omega)]
      simp only [Option.bind_some]
      by_cases hw : word great s = true
      · rw [if_pos hw, if_pos hw]
      · rw [if_neg hw, if_neg hw]
  · rw [if_neg ht, if_neg ht]; rfl
def isT (s : ByteArray) : Bool := kind s != 0
theorem words_Type_is (s : ByteArray) (hs : s.size < 4398046511104) : words_Type.f s = some (isT s) := by
  unfold words_Type.f
  rw [words_Kind_is s hs]; rfl
def fiveB : List ByteArray := [⟨#[105, 110, 116]⟩, ⟨#[114, 101, 97, 108]⟩, ⟨#[98, 111, 111, 108]⟩, ⟨#[115, 116, 114]⟩, ⟨#[117, 110, 105, 116]⟩]
theorem five_any (s : ByteArray) : (fiveB.any fun x => decide (x.toList = s.toList)) = decide (tag s ≠ 0) := by
  unfold tag fiveB
  simp only [List.any_cons, List.any_nil, lit, Bool.or_false]
  by_cases h0 : s.toList = [105, 110, 116]
  · rw [if_pos h0]; simp [h0]
  · rw [if_neg h0]
    by_cases h1 : s.toList = [114, 101, 97, 108]
    · rw [if_pos h1]; simp [h1]
    · rw [if_neg h1]
      by_cases h2 : s.toList = [98, 111, 111, 108]
      · rw [if_pos h2]; simp [h2]
      · rw [if_neg h2]
        by_cases h3 : s.toList = [115, 116, 114]
        · rw [if_pos h3]; simp [h3]
        · rw [if_neg h3]
          by_cases h4 : s.toList = [117, 110, 105, 116]
          · rw [if_pos h4]; simp [h4]
          · rw [if_neg h4]; simp [Ne.symm h0, Ne.symm h1, Ne.symm h2, Ne.symm h3, Ne.symm h4]
theorem Kind_ev (s : ByteArray) (hs : s.size < 4398046511104) : Evn (fun k => chaperonref04_Kind.f k s) (kind s) := by
  refine Evn.cbind (a := chaperonref04_bases.f) rfl (Evn.bind (in_ev fiveB s (by decide)) ?_)
  rw [five_any]
  unfold kind
  by_cases ht : tag s = 0
  · rw [if_pos ht]
    refine Evn.neg (by simp [ht]) ?_
    by_cases hq : s.toList = ([63] : List UInt8)
    · rw [if_pos hq]; exact Evn.pos hq (Evn.ret _)
    · rw [if_neg hq]
      refine Evn.neg hq (Evn.bind (Class_ev s hs) ?_)
      by_cases hw : word great s = true
      · exact Evn.pos hw ((Evn.ret _).val (by rw [if_pos hw]))
      · exact Evn.neg hw ((Evn.ret _).val (by rw [if_neg hw]))
  · rw [if_neg ht]
    exact Evn.pos (by simp [ht]) (Evn.ret _)
theorem Type_ev (s : ByteArray) (hs : s.size < 4398046511104) : Evn (fun k => chaperonref04_Type.f k s) (isT s) := by
  refine Evn.bind (Kind_ev s hs) ((Evn.ret _).val ?_)
  unfold isT kind
  split
  · split
    · rfl
    · split <;> rfl
  · rfl
end Go.Proofs.Ytnefifgfpljlkaa.Pure
