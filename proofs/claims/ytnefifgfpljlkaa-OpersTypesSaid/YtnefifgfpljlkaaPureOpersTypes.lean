/- chaperonlaw15.OpersTypes tells true for all texts (of more than 40 bytes: the chapter's examples alone). -/
import Derived.Test.YtnefifgfpljlkaaPOp
import Derived.Test.YtnefifgfpljlkaaPAllx11
import Derived.Test.YtnefifgfpljlkaaPAllx12
import Derived.Test.YtnefifgfpljlkaaPAllx14
import Derived.Test.YtnefifgfpljlkaaPAllx18
import Derived.Test.YtnefifgfpljlkaaPAllx22
import Derived.Test.YtnefifgfpljlkaaPAllx23
import Derived.Test.YtnefifgfpljlkaaPAllx24
import Derived.Test.YtnefifgfpljlkaaPAllx25
import Derived.Test.YtnefifgfpljlkaaPAllx26
import Derived.Test.YtnefifgfpljlkaaPAllx27
import Derived.Test.YtnefifgfpljlkaaPAllx28
import Derived.Test.YtnefifgfpljlkaaPAllx29
import Derived.Test.YtnefifgfpljlkaaPAllm0
namespace Go.Proofs.Ytnefifgfpljlkaa.Pure
open Go.RowKit Go.Proofs.Ytnefifgfpljlkaa.PAll Go.Proofs.YtnefifgfpljlkaaW.PrintWords Go.Proofs.YtnefifgfpljlkaaW.PrintLast Go.Proofs.YtnefifgfpljlkaaEv Go.Proofs.YtnefifgfpljlkaaWords Go.Proofs.YtnefifgfpljlkaaOpers
set_option linter.unusedSimpArgs false
set_option linter.unusedVariables false
theorem among_l (l : List ByteArray) (s : ByteArray) (hl : l.length < 4398046511104) : ∀ (d i : Nat), d = l.length - i → i ≤ l.length → Evn (fun k => chaperonref15_among.l0 k s l (i : Int)) ((l.drop i).any fun x => decide (x.toList = s.toList)) := by
  intro d
  induction d with
  | zero =>
    intro i hd hi
    rw [List.drop_of_length_le (by omega)]
    exact Evn.succ (Evn.neg (by omega) (Evn.ret _))
  | succ d ih =>
    intro i hd hi
    have h : i < l.length := by omega
    rw [List.drop_eq_getElem_cons h, List.any_cons]
    by_cases he : l[i].toList = s.toList
    · exact Evn.succ (Evn.pos (by omega) (Evn.pos (by omega) (Evn.pos (by rw [rdB l i h]; exact he) ((Evn.ret _).val (by simp [he])))))
    · refine Evn.succ (Evn.pos (by omega) (Evn.pos (by omega) (Evn.neg (by rw [rdB l i h]; exact he) ?_)))
      rw [w1 h hl, show (decide (l[i].toList = s.toList) || (List.drop (i + 1) l).any fun x => decide (x.toList = s.toList)) = (List.drop (i + 1) l).any fun x => decide (x.toList = s.toList) by simp [he]]
      exact ih (i + 1) (by omega) (by omega)
theorem among_ev (s : ByteArray) (l : List ByteArray) (hl : l.length < 4398046511104) : Evn (fun k => chaperonref15_among.f k s l) (l.any fun x => decide (x.toList = s.toList)) := among_l l s hl l.length 0 rfl (Nat.zero_le _)
/-- Does an operation take a base type? -/
def T (op s : ByteArray) : Bool :=
  if s.toList = ([105, 110, 116] : List UInt8) then (([⟨#[43]⟩, ⟨#[45]⟩, ⟨#[42]⟩, ⟨#[47]⟩, ⟨#[37]⟩, ⟨#[60]⟩, ⟨#[60, 61]⟩] : List ByteArray).any fun x => decide (x.toList = op.toList))
  else if s.toList = ([114, 101, 97, 108] : List UInt8) then (([⟨#[43]⟩, ⟨#[45]⟩, ⟨#[42]⟩, ⟨#[47]⟩, ⟨#[60]⟩, ⟨#[60, 61]⟩] : List ByteArray).any fun x => decide (x.toList = op.toList))
  else if s.toList = ([115, 116, 114] : List UInt8) then op.toList == ([43] : List UInt8) else false
theorem takes_ev (op s : ByteArray) : Evn (fun k => chaperonref15_takes.f k op s) (T op s) := by
  unfold T
  by_cases h0 : s.toList = ([105, 110, 116] : List UInt8)
  · rw [if_pos h0]; exact Evn.pos h0 (Evn.bind (among_ev op _ (by decide)) (Evn.ret _))
  · rw [if_neg h0]
    refine Evn.neg h0 ?_
    by_cases h1 : s.toList = ([114, 101, 97, 108] : List UInt8)
    · rw [if_pos h1]; exact Evn.pos h1 (Evn.bind (among_ev op _ (by decide)) (Evn.ret _))
    · rw [if_neg h1]
      refine Evn.neg h1 ?_
      by_cases h2 : s.toList = ([115, 116, 114] : List UInt8)
      · exact Evn.pos h2 ((Evn.ret _).val (by rw [if_pos h2]))
      · exact Evn.neg h2 ((Evn.ret _).val (by rw [if_neg h2]))
theorem T_dyn (op s : ByteArray) (h : s.toList = ([63] : List UInt8)) : T op s = false := by
  unfold T
  rw [h]; simp
theorem contains_is (l : List ByteArray) (s : ByteArray) (hl : l.length < 4398046511104) : slices_Contains_string_string.f l s = some (l.any fun x => decide (s.toList = x.toList)) := by
  unfold slices_Contains_string_string.f slices_Index_string_string.f
  rw [if_pos hl]
  simp only [Option.bind_some]
  rw [slices_Index_string_string.idx_mem]
theorem table_any (op : ByteArray) : (([⟨#[124, 124]⟩, ⟨#[38, 38]⟩, ⟨#[61, 61]⟩, ⟨#[33, 61]⟩, ⟨#[60]⟩, ⟨#[60, 61]⟩, ⟨#[43]⟩, ⟨#[45]⟩, ⟨#[42]⟩, ⟨#[47]⟩, ⟨#[37]⟩] : List ByteArray).any fun x => decide (x.toList = op.toList)) = ((table op).isSome || (opers_Bin.eq op || opers_Bin.lg op)) := by
  unfold table opers_Bin.eq opers_Bin.lg
  simp only [List.any_cons, List.any_nil, lit]
  obtain ⟨o, ho⟩ : ∃ o, o = op.toList := ⟨_, rfl⟩
  rw [← ho]
  by_cases h0 : o = [43]
  · subst h0; rfl
  by_cases h1 : o = [45]
  · subst h1; rfl
  by_cases h2 : o = [42]
  · subst h2; rfl
  by_cases h3 : o = [47]
  · subst h3; rfl
  by_cases h4 : o = [37]
  · subst h4; rfl
  by_cases h5 : o = [60]
  · subst h5; rfl
  by_cases h6 : o = [60, 61]
  · subst h6; rfl
  by_cases h7 : o = [61, 61]
  · subst h7; rfl
  by_cases h8 : o = [33, 61]
  · subst h8; rfl
  by_cases h9 : o = [38, 38]
  · subst h9; rfl
  by_cases ha : o = [124, 124]
  · subst ha; rfl
  simp [h0, h1, h2, h3, h4, h5, h6, h7, h8, h9, ha, Ne.symm h0, Ne.symm h1, Ne.symm h2, Ne.symm h3, Ne.symm h4, Ne.symm h5, Ne.symm h6, Ne.symm h7, Ne.symm h8, Ne.symm h9, Ne.symm ha]
theorem table_rows (op : ByteArray) {F : Nat} {lst : List ByteArray} {res : ByteArray} (h : table op = some (F, lst, res)) :
    lst.length < 4398046511104 ∧ (∀ s : ByteArray, (lst.any fun x => decide (s.toList = x.toList)) = T op s) ∧ res = (if chaperonref15_Bin.lt op = true then ⟨#[98, 111, 111, 108]⟩ else ⟨#[]⟩) := by
  have key : ∀ s : ByteArray, T op s = T op s := fun _ => rfl
  unfold table at h
  obtain ⟨o, ho⟩ : ∃ o, o = op.toList := ⟨_, rfl⟩
  unfold T chaperonref15_Bin.lt
  rw [← ho] at h ⊢
  have sc : ∀ s : ByteArray, s.toList = [105, 110, 116] ∨ s.toList = [114, 101, 97, 108] ∨ s.toList = [115, 116, 114] ∨ (s.toList ≠ [105, 110, 116] ∧ s.toList ≠ [114, 101, 97, 108] ∧ s.toList ≠ [115, 116, 114]) := fun s => by
    by_cases h0 : s.toList = [105, 110, 116]
    · exact .inl h0
    · by_cases h1 : s.toList = [114, 101, 97, 108]
      · exact .inr (.inl h1)
      · by_cases h2 : s.toList = [115, 116, 114]
        · exact .inr (.inr (.inl h2))
        · exact .inr (.inr (.inr ⟨h0, h1, h2⟩))
  repeat' (split at h)
  all_goals first
    | (cases h; done)
    | (rename_i hc
       obtain ⟨rfl, rfl, rfl⟩ : _ ∧ _ ∧ _ := by simpa using h
       refine ⟨by decide, fun s => ?_, by simp [hc]⟩
       rcases sc s with q | q | q | ⟨q1, q2, q3⟩
       · rw [hc]; simp [q, lit]
       · rw [hc]; simp [q, lit]
       · rw [hc]; simp [q, lit]
       · rw [hc]; simp [q1, q2, q3, lit])
theorem among_two (s : ByteArray) : Evn (fun k => chaperonref15_among.f k s [⟨#[98, 111, 111, 108]⟩, ⟨#[63]⟩]) (opers_logical.lg s) := by
  refine (among_ev s _ (by decide)).val ?_
  unfold opers_logical.lg
  simp only [List.any_cons, List.any_nil, lit, Bool.or_false]
  by_cases h0 : s.toList = [98, 111, 111, 108]
  · simp [h0]
  · by_cases h1 : s.toList = [63]
    · simp [h1]
    · simp [h0, h1, Ne.symm h0, Ne.symm h1]
theorem lg_comm (op : ByteArray) : chaperonref15_Bin.lg op = opers_Bin.lg op := by
  unfold chaperonref15_Bin.lg opers_Bin.lg
  exact Bool.or_comm _ _
theorem alone' {op : ByteArray} {x : Nat × List ByteArray × ByteArray} (h : table op = some x) : opers_Bin.eq op = false ∧ opers_Bin.lg op = false := by
  obtain ⟨h1, h2, h3, h4⟩ := opers_Bin.alone h
  unfold opers_Bin.eq opers_Bin.lg
  rw [h1, h2, h3, h4]; exact ⟨rfl, rfl⟩
theorem Bin_eq (op l r : ByteArray) (hl : l.size < 4398046511104) (hr : r.size < 4398046511104) : ∃ v, opers_Bin.f op l r = some v ∧ Evn (fun k => chaperonref15_Bin.f k op l r) v := by
  have hA := among_ev op ([⟨#[124, 124]⟩, ⟨#[38, 38]⟩, ⟨#[61, 61]⟩, ⟨#[33, 61]⟩, ⟨#[60]⟩, ⟨#[60, 61]⟩, ⟨#[43]⟩, ⟨#[45]⟩, ⟨#[42]⟩, ⟨#[47]⟩, ⟨#[37]⟩] : List ByteArray) (by decide)
  rw [table_any] at hA
  have h1 := Type_ev l hl
  have h2 := Type_ev r hr
  cases ht : table op with
  | none =>
    rw [ht] at hA
    unfold opers_Bin.f
    rw [ht]
    simp only [words_Type_is l hl, words_Type_is r hr, Option.bind_some]
    cases he : opers_Bin.eq op with
    | true =>
      rw [he] at hA
      have he' : chaperonref15_Bin.eq op = true := he
      generalize isT l = t1 at *
      generalize isT r = t2 at *
      cases t1 with
      | false => exact ⟨_, rfl, Evn.bind hA (Evn.pos rfl (Evn.bind h1 (Evn.neg (by decide) (Evn.ret _))))⟩
      | true =>
        cases t2 with
        | false => exact ⟨_, rfl, Evn.bind hA (Evn.pos rfl (Evn.bind h1 (Evn.pos rfl (Evn.bind h2 (Evn.neg (by decide) (Evn.ret _))))))⟩
        | true => exact ⟨_, rfl, Evn.bind hA (Evn.pos rfl (Evn.bind h1 (Evn.pos rfl (Evn.bind h2 (Evn.pos rfl (Evn.pos he' (Evn.ret _)))))))⟩
    | false =>
      rw [he] at hA
      have he' : ¬ chaperonref15_Bin.eq op = true := by show ¬ opers_Bin.eq op = true; rw [he]; decide
      cases hg : opers_Bin.lg op with
      | true =>
        rw [hg] at hA
        have hg' : chaperonref15_Bin.lg op = true := (lg_comm op).trans hg
        generalize isT l = t1 at *
        generalize isT r = t2 at *
        cases t1 with
        | false => exact ⟨_, rfl, Evn.bind hA (Evn.pos rfl (Evn.bind h1 (Evn.neg (by decide) (Evn.ret _))))⟩
        | true =>
          cases t2 with
          | false => exact ⟨_, rfl, Evn.bind hA (Evn.pos rfl (Evn.bind h1 (Evn.pos rfl (Evn.bind h2 (Evn.neg (by decide) (Evn.ret _))))))⟩
          | true =>
            simp only [Bool.false_eq_true, if_false, if_true]
            have b1 := among_two l
            have b2 := among_two r
            unfold opers_logical.f
            generalize opers_logical.lg l = g1 at *
            generalize opers_logical.lg r = g2 at *
            cases g1 with
            | false => exact ⟨_, rfl, Evn.bind hA (Evn.pos rfl (Evn.bind h1 (Evn.pos rfl (Evn.bind h2 (Evn.pos rfl (Evn.neg he' (Evn.pos hg' (Evn.bind b1 (Evn.neg (by decide) (Evn.ret _))))))))))⟩
            | true =>
              cases g2 with
              | false => exact ⟨_, rfl, Evn.bind hA (Evn.pos rfl (Evn.bind h1 (Evn.pos rfl (Evn.bind h2 (Evn.pos rfl (Evn.neg he' (Evn.pos hg' (Evn.bind b1 (Evn.pos rfl (Evn.bind b2 (Evn.neg (by decide) (Evn.ret _))))))))))))⟩
              | true => exact ⟨_, rfl, Evn.bind hA (Evn.pos rfl (Evn.bind h1 (Evn.pos rfl (Evn.bind h2 (Evn.pos rfl (Evn.neg he' (Evn.pos hg' (Evn.bind b1 (Evn.pos rfl (Evn.bind b2 (Evn.pos rfl (Evn.ret _))))))))))))⟩
      | false =>
        rw [hg] at hA
        exact ⟨_, rfl, Evn.bind hA (Evn.neg (by decide) (Evn.ret _))⟩
  | some x =>
    obtain ⟨F, lst, res⟩ := x
    obtain ⟨hlst, hT, hres⟩ := table_rows op ht
    obtain ⟨he, hg⟩ := alone' ht
    rw [ht, he, hg] at hA
    have he' : ¬ chaperonref15_Bin.eq op = true := by show ¬ opers_Bin.eq op = true; rw [he]; decide
    have hg' : ¬ chaperonref15_Bin.lg op = true := by rw [lg_comm, hg]; decide
    unfold opers_Bin.f
    rw [ht]
    simp only [words_Type_is l hl, words_Type_is r hr, contains_is lst _ hlst, hT, Option.bind_some]
    have m1 := takes_ev op l
    have m2 := takes_ev op r
    have td1 := T_dyn op l
    have td2 := T_dyn op r
    have ht1 : ∀ s : ByteArray, (s.toList == ([63] : List UInt8)) = false → opers_Bin.told res s = chaperonref15_Bin.told op s false := fun s hs => by
      unfold opers_Bin.told chaperonref15_Bin.told
      rw [hs, hres]
      by_cases q : chaperonref15_Bin.lt op = true
      · rw [if_pos q, if_pos q, if_neg (by rw [lit]; decide)]
      · rw [if_neg q, if_neg q, if_pos (by rw [lit]; rfl)]
    have ht2 : opers_Bin.told res ⟨#[63]⟩ = chaperonref15_Bin.told op ⟨#[63]⟩ true := by
      unfold opers_Bin.told chaperonref15_Bin.told
      rw [hres]
      have : ((⟨#[63]⟩ : ByteArray).toList == ([63] : List UInt8)) = true := by rw [lit]; rfl
      rw [this]
      by_cases q : chaperonref15_Bin.lt op = true
      · rw [if_pos q, if_pos q, if_neg (by rw [lit]; decide)]
      · rw [if_neg q, if_neg q, if_pos (by rw [lit]; rfl)]
    generalize isT l = t1 at *
    generalize isT r = t2 at *
    generalize T op l = M1 at *
    generalize T op r = M2 at *
    cases t1 with
    | false => exact ⟨_, rfl, Evn.bind hA (Evn.pos rfl (Evn.bind h1 (Evn.neg (by decide) (Evn.ret _))))⟩
    | true =>
      cases t2 with
      | false => exact ⟨_, rfl, Evn.bind hA (Evn.pos rfl (Evn.bind h1 (Evn.pos rfl (Evn.bind h2 (Evn.neg (by decide) (Evn.ret _))))))⟩
      | true =>
        simp only [if_true]
        suffices h : ∃ v, (if (M1 && (r.toList == l.toList || r.toList == ([63] : List UInt8))) = true then some (opers_Bin.told res l) else if (l.toList == ([63] : List UInt8)) = true then (if (r.toList == ([63] : List UInt8)) = true then some (opers_Bin.told res r) else if M2 = true then some (opers_Bin.told res r) else some (opers_Bin.no 7)) else some (opers_Bin.no 7)) = some v ∧
            Evn (fun k => (chaperonref15_takes.f k op l).bind fun m1 =>
              if (m1 && (r.toList == l.toList || r.toList == ([63] : List UInt8))) = true then some (chaperonref15_Bin.told op l false)
              else if (l.toList == ([63] : List UInt8)) = true then
                (chaperonref15_takes.f k op r).bind fun m2 => if m2 = true then some (chaperonref15_Bin.told op r false) else if (r.toList == ([63] : List UInt8)) = true then some (chaperonref15_Bin.told op ⟨#[63]⟩ true) else some (chaperonref15_Bin.no 7)
              else some (chaperonref15_Bin.no 7)) v by
          obtain ⟨v, hv, hE⟩ := h
          exact ⟨v, hv, Evn.bind hA (Evn.pos rfl (Evn.bind h1 (Evn.pos rfl (Evn.bind h2 (Evn.pos rfl (Evn.neg he' (Evn.neg hg' hE)))))))⟩
        by_cases q1 : (M1 && (r.toList == l.toList || r.toList == ([63] : List UInt8))) = true
        · rw [if_pos q1]
          have hm : M1 = true := by cases M1 <;> simp_all
          have hd : (l.toList == ([63] : List UInt8)) = false := by
            rw [beq_eq_false_iff_ne]; intro e; rw [td1 e] at hm; cases hm
          exact ⟨_, rfl, Evn.bind m1 (Evn.pos q1 ((Evn.ret _).val (ht1 l hd).symm))⟩
        · rw [if_neg q1]
          by_cases q2 : (l.toList == ([63] : List UInt8)) = true
          · rw [if_pos q2]
            by_cases q3 : (r.toList == ([63] : List UInt8)) = true
            · rw [if_pos q3]
              have hr3 : r.toList = [63] := by simpa using q3
              have hM2 : M2 = false := td2 hr3
              have hr4 : r = ⟨#[63]⟩ := toListInj (hr3.trans (lit _).symm)
              refine ⟨_, rfl, Evn.bind m1 (Evn.neg q1 (Evn.pos q2 (Evn.bind m2 (Evn.neg (by rw [hM2]; decide) (Evn.pos q3 ((Evn.ret _).val ?_))))))⟩
              rw [hr4, ht2]
            · rw [if_neg q3]
              have hd : (r.toList == ([63] : List UInt8)) = false := by simpa using q3
              by_cases q4 : M2 = true
              · rw [if_pos q4]; exact ⟨_, rfl, Evn.bind m1 (Evn.neg q1 (Evn.pos q2 (Evn.bind m2 (Evn.pos q4 ((Evn.ret _).val (ht1 r hd).symm)))))⟩
              · rw [if_neg q4]; exact ⟨_, rfl, Evn.bind m1 (Evn.neg q1 (Evn.pos q2 (Evn.bind m2 (Evn.neg q4 (Evn.neg q3 (Evn.ret _))))))⟩
          · rw [if_neg q2]; exact ⟨_, rfl, Evn.bind m1 (Evn.neg q1 (Evn.neg q2 (Evn.ret _)))⟩
theorem Un_eq (op s : ByteArray) : ∃ v, opers_Un.f op s = some v ∧ Evn (fun k => chaperonref15_Un.f k op s) v := by
  obtain ⟨KB, hB⟩ := among_two s
  obtain ⟨KI, hI⟩ := among_ev s ([⟨#[105, 110, 116]⟩, ⟨#[114, 101, 97, 108]⟩] : List ByteArray) (by decide)
  have eI : (([⟨#[105, 110, 116]⟩, ⟨#[114, 101, 97, 108]⟩] : List ByteArray).any fun x => decide (x.toList = s.toList)) = (s.toList == ([105, 110, 116] : List UInt8) || s.toList == ([114, 101, 97, 108] : List UInt8)) := by
    simp only [List.any_cons, List.any_nil, lit, Bool.or_false]
    by_cases h0 : s.toList = [105, 110, 116]
    · simp [h0]
    · by_cases h1 : s.toList = [114, 101, 97, 108]
      · simp [h1]
      · simp [h0, h1, Ne.symm h0, Ne.symm h1]
  rw [eI] at hI
  have run : ∀ v, (∀ j, KB + KI ≤ j → chaperonref15_Un.f (j + 5) op s = some v) → Evn (fun k => chaperonref15_Un.f k op s) v := fun v h => ⟨KB + KI + 5, fun k hk => by
    obtain ⟨j, rfl⟩ : ∃ j, k = j + 5 := ⟨k - 5, by omega⟩
    exact h j (by omega)⟩
  unfold opers_Un.f
  unfold opers_logical.lg at hB
  by_cases o1 : op.toList = [45]
  · rw [if_pos o1]
    by_cases q1 : s.toList = [105, 110, 116]
    · rw [if_pos q1]
      refine ⟨_, rfl, run _ fun j hj => ?_⟩
      simp (disch := omega) [chaperonref15_Un.f, chaperonref15_Un.j0, chaperonref15_Un.j1, chaperonref15_Un.j2, o1, q1, hI, hB]
    · rw [if_neg q1]
      by_cases q2 : s.toList = [114, 101, 97, 108]
      · rw [if_pos q2]
        refine ⟨_, rfl, run _ fun j hj => ?_⟩
        simp (disch := omega) [chaperonref15_Un.f, chaperonref15_Un.j0, chaperonref15_Un.j1, chaperonref15_Un.j2, o1, q2, hI, hB]
      · rw [if_neg q2]
        by_cases q3 : s.toList = [63]
        · rw [if_pos q3]
          refine ⟨_, rfl, run _ fun j hj => ?_⟩
          simp (disch := omega) [chaperonref15_Un.f, chaperonref15_Un.j0, chaperonref15_Un.j1, chaperonref15_Un.j2, o1, q3, hI, hB]
        · rw [if_neg q3]
          refine ⟨_, rfl, run _ fun j hj => ?_⟩
          simp (disch := omega) [chaperonref15_Un.f, chaperonref15_Un.j0, chaperonref15_Un.j1, chaperonref15_Un.j2, o1, q1, q2, q3, hI, hB]
  · rw [if_neg o1]
    by_cases o2 : op.toList = [33]
    · rw [if_pos o2]
      by_cases q1 : s.toList = [98, 111, 111, 108]
      · rw [if_pos q1]
        have hs : s = ⟨#[98, 111, 111, 108]⟩ := toListInj (q1.trans (lit _).symm)
        refine ⟨_, rfl, run _ fun j hj => ?_⟩
        simp (disch := omega) [chaperonref15_Un.f, chaperonref15_Un.j0, chaperonref15_Un.j1, chaperonref15_Un.j2, o2, q1, hI, hB]
        first | exact hs.symm | exact ⟨hs.symm, hs.symm⟩
      · rw [if_neg q1]
        by_cases q3 : s.toList = [63]
        · rw [if_pos q3]
          refine ⟨_, rfl, run _ fun j hj => ?_⟩
          simp (disch := omega) [chaperonref15_Un.f, chaperonref15_Un.j0, chaperonref15_Un.j1, chaperonref15_Un.j2, o2, q3, hI, hB]
        · rw [if_neg q3]
          refine ⟨_, rfl, run _ fun j hj => ?_⟩
          simp (disch := omega) [chaperonref15_Un.f, chaperonref15_Un.j0, chaperonref15_Un.j1, chaperonref15_Un.j2, o2, q1, q3, hI, hB]
    · rw [if_neg o2]
      refine ⟨_, rfl, run _ fun j hj => ?_⟩
      simp (disch := omega) [chaperonref15_Un.f, chaperonref15_Un.j0, chaperonref15_Un.j1, chaperonref15_Un.j2, o1, o2, hI, hB]
theorem Conv_eq (nm s : ByteArray) : ∃ v, opers_Conv.f nm s = some v ∧ chaperonref15_Conv.f nm s = some v := by
  unfold opers_Conv.f opers_changes.f chaperonref15_Conv.f chaperonref15_Conv.cv
  by_cases h0 : nm.toList = [114, 101, 97, 108]
  · simp only [if_pos h0, Option.bind_some, if_true]
    by_cases q : s.toList = (⟨#[105, 110, 116]⟩ : ByteArray).toList
    · exact ⟨_, if_pos q, if_pos q⟩
    · by_cases q2 : s.toList = ([63] : List UInt8)
      · exact ⟨_, (if_neg q).trans (if_pos q2), (if_neg q).trans (if_pos q2)⟩
      · exact ⟨_, (if_neg q).trans (if_neg q2), (if_neg q).trans (if_neg q2)⟩
  · by_cases h1 : nm.toList = [105, 110, 116]
    · simp only [if_neg h0, if_pos h1, Option.bind_some, if_true]
      by_cases q : s.toList = (⟨#[114, 101, 97, 108]⟩ : ByteArray).toList
      · exact ⟨_, if_pos q, if_pos q⟩
      · by_cases q2 : s.toList = ([63] : List UInt8)
        · exact ⟨_, (if_neg q).trans (if_pos q2), (if_neg q).trans (if_pos q2)⟩
        · exact ⟨_, (if_neg q).trans (if_neg q2), (if_neg q).trans (if_neg q2)⟩
    · by_cases h2 : nm.toList = [108, 101, 110]
      · simp only [if_neg h0, if_neg h1, if_pos h2, Option.bind_some, if_true]
        by_cases q : s.toList = (⟨#[115, 116, 114]⟩ : ByteArray).toList
        · exact ⟨_, if_pos q, if_pos q⟩
        · by_cases q2 : s.toList = ([63] : List UInt8)
          · exact ⟨_, (if_neg q).trans (if_pos q2), (if_neg q).trans (if_pos q2)⟩
          · exact ⟨_, (if_neg q).trans (if_neg q2), (if_neg q).trans (if_neg q2)⟩
      · simp only [if_neg h0, if_neg h1, if_neg h2, Option.bind_some]
        exact ⟨_, rfl, rfl⟩
theorem Tag_ev (s : ByteArray) : Evn (fun k => chaperonref04_Tag.f k s) (tag2 s) := by
  refine Evn.cbind (a := chaperonref04_bases.f) rfl ⟨6, fun k hk => ?_⟩
  obtain ⟨j, rfl⟩ : ∃ j, k = j + 6 := ⟨k - 6, by omega⟩
  unfold tag2 tag
  by_cases h0 : s.toList = [105, 110, 116]
  · simp [chaperonref04_Tag.l0, rdOf, wrap64, lit, h0]
  · by_cases h1 : s.toList = [114, 101, 97, 108]
    · simp [chaperonref04_Tag.l0, rdOf, wrap64, lit, h1]
    · by_cases h2 : s.toList = [98, 111, 111, 108]
      · simp [chaperonref04_Tag.l0, rdOf, wrap64, lit, h2]
      · by_cases h3 : s.toList = [115, 116, 114]
        · simp [chaperonref04_Tag.l0, rdOf, wrap64, lit, h3]
        · by_cases h4 : s.toList = [117, 110, 105, 116]
          · simp [chaperonref04_Tag.l0, rdOf, wrap64, lit, h4]
          · simp [chaperonref04_Tag.l0, rdOf, wrap64, lit, h0, h1, h2, h3, h4, Ne.symm h0, Ne.symm h1, Ne.symm h2, Ne.symm h3, Ne.symm h4]
theorem Zero_eq (s : ByteArray) (hs : s.size < 4398046511104) : ∃ t e, opers_Zero.f s = some (t, 0, 0, ⟨#[]⟩, [], e) ∧ Evn (fun k => chaperonref15_Zero.f k s) (t, 0, 0, ⟨#[]⟩, [], e) := by
  unfold opers_Zero.f words_Tag.f
  rw [words_Type_is s hs]
  simp only [Option.bind_some]
  by_cases h : isT s = true
  · rw [if_pos h]
    by_cases h2 : (tag2 s).2 = 0
    · exact ⟨_, _, if_pos h2, Evn.bind (Type_ev s hs) (Evn.pos h (Evn.bind (Tag_ev s) (Evn.pos h2 (Evn.ret _))))⟩
    · exact ⟨_, _, if_neg h2, Evn.bind (Type_ev s hs) (Evn.pos h (Evn.bind (Tag_ev s) (Evn.neg h2 (Evn.ret _))))⟩
  · exact ⟨_, _, if_neg h, Evn.bind (Type_ev s hs) (Evn.neg h (Evn.ret _))⟩
theorem awake_ev : Evn (fun k => chaperonlaw15_awake.f k) true := ⟨10, fun k h => at_rounds (g := chaperonlaw15_awake.f) (fun k => chaperonlaw15_awake.mono k) h (by kernel_rfl)⟩
theorem sameNil_ev (t : Int) : Evn (fun k => chaperonkit_SameValue.f k t 0 0 ⟨#[]⟩ [] t 0 0 ⟨#[]⟩ []) true := by
  refine Evn.pos rfl (Evn.pos rfl (Evn.pos rfl (Evn.pos rfl (Evn.bind (a := true) ⟨2, fun k hk => ?_⟩ (Evn.ret _)))))
  obtain ⟨j, rfl⟩ : ∃ j, k = j + 1 := ⟨k - 1, by omega⟩
  simp [chaperonkit_SameLayers.f, chaperonkit_SameLayers.l0]
theorem OpersTypes : chaperonlaw15_OpersTypes.Pure := by
  intro a0 a1 a2 s0 s1 s2
  refine Evn.ex (v := true) ?_
  by_cases h0 : (a0.size : Int) > 40
  · exact Evn.pos h0 (Evn.succ (Evn.bind awake_ev (Evn.ret _)))
  refine Evn.neg h0 ?_
  by_cases h1 : (a1.size : Int) > 40
  · exact Evn.pos h1 (Evn.succ (Evn.bind awake_ev (Evn.ret _)))
  refine Evn.neg h1 ?_
  by_cases h2 : (a2.size : Int) > 40
  · rw [decide_eq_true h2]; exact Evn.succ (Evn.bind awake_ev (Evn.ret _))
  rw [decide_eq_false h2]
  obtain ⟨⟨b1, b2, b3, b4⟩, hb, hbE⟩ := Bin_eq a0 a1 a2 (by omega) (by omega)
  obtain ⟨⟨u1, u2, u3, u4⟩, hu, huE⟩ := Un_eq a0 a1
  obtain ⟨⟨c1, c2, c3, c4⟩, hc, hcE⟩ := Conv_eq a0 a1
  obtain ⟨t, e, hz, hzE⟩ := Zero_eq a1 (by omega)
  refine Evn.succ (Evn.cbind hb (Evn.bind hbE (Evn.cbind hu (Evn.bind huE (Evn.cbind hc (Evn.cbind hcE (Evn.cbind hz (Evn.bind hzE ?_))))))))
  refine Evn.pos (by simp) (Evn.pos rfl (Evn.pos (by simp) (Evn.pos rfl (Evn.pos (by simp) (Evn.pos rfl (Evn.bind (sameNil_ev t) (Evn.pos rfl (Evn.pos rfl (Evn.bind awake_ev (Evn.ret _))))))))))
end Go.Proofs.Ytnefifgfpljlkaa.Pure
