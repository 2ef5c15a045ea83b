/- Parts of the proof of one statement, packed: what the program's functions compute. No conditions. -/
import Derived.Test.YtinkbljjpafadaaKA1
import Derived.Test.YtinkbljjpafadaaKA2
import Derived.Deep.DeepMust
section
namespace Go.Proofs.YtinkbljjpafadaaRF
open Go.RowKit Go.Proofs.YtinkbljjpafadaaW.PrintWords
set_option linter.unusedSimpArgs false
set_option linter.unusedVariables false
section
variable {F : Fence} {n : Nat} {P : Program}
def roundPostP (P : Program) (l : Nat) (R : Ending → World → Prop) : Exit → Act → World → Prop
  | .panic ch, a, w => a.defers = [] ∧ R (.panicked ch) w
  | e, a, w => roundPost P l R e a w
theorem roundIn_of_wpInP {l : Nat} {f : FuncId} {tmps : Array Value} {assign body : Code} {w : World} {R : Ending → World → Prop} (hF : F.fn f) (hfn : ∃ fn, P.funcs[f]? = some fn)
    (h : assign.wpIn (F.inRound l) n P (Exit.then (fun a₁ w₁ => ∃ w₂, (Instr.beginRound l).run P w₁ = .ok () w₂ ∧ body.wpIn (F.inRound l) n P (roundPostP P l R) a₁ w₂) (fun _ _ _ => False))
      { tmps := tmps, defers := [] } w) :
    RoundIn F n P l f tmps assign body w R := by
  refine ⟨hF, fun c cs hr => ?_⟩
  let b : Frame := { (default : Frame) with fn := f, kind := .normal, roundOf := some l }
  have hb0 : Frame.round l f tmps assign body .normal = b.atR { tmps := tmps, defers := [] } [.code assign, .beginRound, .code body] := by
    simp [Frame.round, Frame.atR, b]
  have hr' : (F.inRound l).room ((c :: cs).length + 1 + n) := hr
  have hF' : (F.inRound l).fn b.fn := hF
  obtain ⟨e, a₁, w₁, hq, harr⟩ := h b [.beginRound, .code body] (c :: cs) rfl hF' hr'
  rw [← hb0] at harr
  cases e with
  | normal =>
    obtain ⟨w₂, hbr, hbody⟩ := hq
    have s1 : StepsIn (Machine.fenced P (F.inRound l)) P (lone (b.atR a₁ [.beginRound, .code body]) (c :: cs) w₁) (lone (b.atR a₁ [.code body]) (c :: cs) w₂) :=
      .one (fenced_calm (fr := b.atR a₁ [.beginRound, .code body]) hF' hr' rfl) (stepR_beginRound rfl hbr)
    obtain ⟨e₂, a₂, w₃, hq₂, harr₂⟩ := hbody b [] (c :: cs) rfl hF' hr'
    cases e₂ with
    | normal =>
      obtain ⟨v, w₄, hend, hR⟩ := hq₂
      exact ⟨.returned v, w₄, hR, (StepsIn.trans harr s1).trans (StepsIn.trans harr₂ (.one (fenced_calm (fr := b.atR a₂ []) hF' hr' rfl) (stepR_round_end rfl rfl hend)))⟩
    | ret =>
      obtain ⟨v, w₄, hend, hR⟩ := hq₂
      obtain ⟨k₁, hs⟩ := harr₂.2 rfl
      exact ⟨.returned v, w₄, hR, (StepsIn.trans harr s1).trans (StepsIn.trans hs (.one (fenced_calm (fr := b.atR a₂ (.code .ret :: k₁)) hF' hr' rfl) (stepR_round_ret rfl rfl hend)))⟩
    | exit id =>
      obtain ⟨v, w₄, hend, hR⟩ := hq₂
      obtain ⟨k₁, hk, hs⟩ := harr₂.2 rfl rfl
      exact ⟨.returned v, w₄, hR, (StepsIn.trans harr s1).trans (StepsIn.trans hs (.one (fenced_calm (fr := b.atR a₂ (.code (.exit id) :: k₁)) hF' hr' rfl) (stepR_round_exit rfl rfl hk hend)))⟩
    | goto t =>
      obtain ⟨v, w₄, hend, hR⟩ := hq₂
      obtain ⟨k₁, hk, hs⟩ := harr₂.2 rfl rfl
      exact ⟨.returned v, w₄, hR, (StepsIn.trans harr s1).trans (StepsIn.trans hs (.one (fenced_calm (fr := b.atR a₂ (.code (.goto t) :: k₁)) hF' hr' rfl) (stepR_round_goto rfl rfl hk hend)))⟩
    | panic ch =>
      obtain ⟨hd, hR⟩ := hq₂
      obtain ⟨todo, hs⟩ := harr₂
      have hleave : ({ b.atR a₂ todo with mode := .panicking ch } : Frame).leaving P w₃ (.panicked ch) := ⟨rfl, hd, hfn⟩
      exact ⟨.panicked ch, w₃, hR, (StepsIn.trans harr s1).trans (StepsIn.trans hs (.one (fenced_leaving (fr := { b.atR a₂ todo with mode := .panicking ch }) hF' hr' hleave) (step_leave_panicked hleave)))⟩
    | outgrown => exact hq₂.elim
  | exit id => exact hq.elim
  | goto t => exact hq.elim
  | ret => exact hq.elim
  | panic chain => exact hq.elim
  | outgrown => exact hq.elim
def rpostP {α : Type} (O : Nat → Prop) (I : List α → (Nat → Prop) → World → Prop) (Ix : Code → List α → (Nat → Prop) → World → Prop) (Ip : List PanicEntry → List α → (Nat → Prop) → World → Prop) (xs : List α) (W : World) : Exit → Act → World → Prop
  | .normal, _, W' => Mv (fun k => ¬ O k) W W' ∧ I xs O W'
  | .ret, _, W' => Mv (fun k => ¬ O k) W W' ∧ Ix .ret xs O W'
  | .exit id, _, W' => Mv (fun k => ¬ O k) W W' ∧ Ix (.exit id) xs O W'
  | .goto t, _, W' => Mv (fun k => ¬ O k) W W' ∧ Ix (.goto t) xs O W'
  | .panic ch, a, W' => a.defers = [] ∧ Mv (fun k => ¬ O k) W W' ∧ Ip ch xs O W'
  | .outgrown, _, _ => False
def IterP {α : Type} (F : Fence) (n : Nat) (P : Program) (gf : Nat) (lb : Array Value) (encs : α → Array Value) (Pre S : List α → Prop) (O₀ Rd : Nat → Prop) (w : World) : Prop :=
  ∀ (l : Nat) (J Jx : List α → (Nat → Prop) → World → Prop) (Jp : List PanicEntry → List α → (Nat → Prop) → World → Prop) (O : Nat → Prop) (W : World), Stable J → Stable Jx → (∀ c, Stable (Jp c)) →
    (∀ pre x O W, J pre O W → Pre (pre ++ [x]) → (∀ k, O k → k < W.heap.size) → YieldAt F (n - 1) P l (encs x) W fun e W' =>
      (e = .returned (.bool true) ∧ J (pre ++ [x]) O W' ∧ Mv (fun k => ¬ O k ∧ ¬ Rd k) W W') ∨ (e = .returned (.bool false) ∧ Jx (pre ++ [x]) O W' ∧ Mv (fun k => ¬ O k ∧ ¬ Rd k) W W') ∨ (∃ ch, e = .panicked ch ∧ Jp ch (pre ++ [x]) O W' ∧ Mv (fun k => ¬ O k ∧ ¬ Rd k) W W')) →
    Mv (fun _ => False) w W → (∀ k, O₀ k → O k) → (∀ k, O k → k < W.heap.size) → J [] O W →
    CallsIn F n P gf (#[.func (.yield l) #[] #[]] ++ lb) W fun e W' => ((∃ v, e = .returned v) ∧
      ((∃ xs O, S xs ∧ J xs O W' ∧ ∀ k, O k → k < W'.heap.size) ∨ (∃ pre O, Jx pre O W' ∧ ∀ k, O k → k < W'.heap.size))) ∨ (∃ ch, e = .panicked ch ∧ ∃ pre O, Jp ch pre O W' ∧ ∀ k, O k → k < W'.heap.size)
end
end Go.Proofs.YtinkbljjpafadaaRF
end

section
namespace Go.Proofs.YtinkbljjpafadaaTab
open Go.RowKit Go.Proofs.Ytinkbljjpafadaa.PAll Go.Proofs.YtinkbljjpafadaaW.PrintWords Go.Proofs.YtinkbljjpafadaaW.PrintLast Go.Proofs.YtinkbljjpafadaaRF Go.Proofs.YtinkbljjpafadaaRG
set_option linter.unusedSimpArgs false
set_option linter.unusedVariables false
attribute [local go_sem] Oper.semAt_some
def wl {α : Type} (back : Bool) (l : List α) : List α := if back = true then l.reverse else l
theorem wl_len {α : Type} (back : Bool) (l : List α) : (wl back l).length = l.length := by cases back <;> simp [wl]
def encL (x : S35) : Value := .agg #[.bool x.f0, .string x.f1, .int .i64 x.f2]
theorem cwalk_calls (A : Option Addr) (n c : Nat) (back : Bool) (w : World) :
    Calls Try.prog 55 #[.slice A n c, .bool back] w fun e w' => e = .returned (.func (.func 68) #[] #[.pointer (some ⟨w.heap.size, 0, none⟩), .pointer (some ⟨w.heap.size + 1, 0, none⟩)]) ∧
      w' = (w.alloc (.cells #[.slice A n c] 25)).alloc (.cells #[.bool back] 4) := by
  have hmf : ∀ (fn : Fn) (first cap : Array Value) (w : World), (Instr.makeFunc fn first cap).run Try.prog w = .ok (.func fn first cap) w := fun _ _ _ _ => rfl
  go_enter Try.func55, Try.ntmps55
  go_wp2
  go_ret
  exact ⟨rfl, rfl⟩
def wat (N : Nat) (back : Bool) (k : Nat) : Int := if back = true then (N : Int) - 1 - k else k
theorem wat_in (N : Nat) (back : Bool) (k : Nat) (h : k < N) : 0 ≤ wat N back k ∧ wat N back k < N := by
  unfold wat; cases back <;> simp <;> omega
theorem wl_at (l : List (S35)) (back : Bool) (k : Nat) (h : k < l.length) : (wl back l)[k]? = some (rd_T35 l (wat l.length back k)) := by
  unfold rd_T35
  rw [List.getD_eq_getElem?_getD]
  cases back
  · simp [wl, wat, h]
  · have h1 : ((l.length : Int) - 1 - (k : Int)).toNat = l.length - 1 - k := by omega
    have h2 : l.length - 1 - k < l.length := by omega
    simp only [wl, wat, if_true, h1]
    rw [List.getElem?_reverse h, List.getElem?_eq_getElem h2]
    rfl
set_option maxHeartbeats 2000000 in
set_option maxRecDepth 100000 in
theorem cwalk1_iter (n : Nat) (hn : 2 ≤ n) (A : Option Addr) (c : Nat) (l0 : List (S35)) (hN : l0.length < 4398046511104) (back : Bool) (Bl Bb n₀ : Nat) (w : World) (hn0 : n₀ ≤ w.heap.size)
    (hC : ∀ w', Below n₀ w w' → Kd.C k35 w' A l0.length l0)
    (hBl : w.heap[Bl]? = some (.cells #[.slice A l0.length c] 25 (0, 0))) (hBb : w.heap[Bb]? = some (.cells #[.bool back] 4 (0, 0))) :
    IterP Fence.wide n Try.prog 68 #[.pointer (some ⟨Bl, 0, none⟩), .pointer (some ⟨Bb, 0, none⟩)] (fun x : S35 => #[encL x]) (fun l => l <+: wl back l0) (fun l => l = wl back l0) (fun k => k = Bl ∨ k = Bb) (fun k => k < n₀) w := by
  intro l J Jx Jp O W hJ hJx hJp hY hmv hO hOl h0
  have hn1 : 1 ≤ n - 1 := by omega
  have hB1 := hmv.at hBl (fun h => h)
  have hB2 := hmv.at hBb (fun h => h)
  have hbw : Below n₀ w W := hmv.below hn0 (fun _ h => h.elim)
  have hu35 := Try.underlying35
  refine callsIn_of_wp Try.func68 rfl trivial ?_ rfl
  simp only [Try.ntmps68, List.size_toArray, List.length_cons, List.length_nil, Nat.reduceAdd, Nat.reduceSub, Array.replicate_succ, Array.replicate_zero, List.push_toArray, List.append_toArray, List.nil_append, List.cons_append]
  have hc1 := cell_at hB1 0
  have hc2 := cell_at hB2 0
  simp only [List.getElem?_toArray, List.getElem?_cons_zero] at hc1 hc2
  have HC := Aside0.mk hC
  clear hC
  gi_wp2
  gi_loopw [7, 4] (fun v7 v4 wr => ∃ k : Nat, k ≤ l0.length ∧ v7 = .int .i64 k ∧ Aside0 (J ((wl back l0).take k) O wr ∧ (∀ k, O k → k < wr.heap.size) ∧ wr.heap[Bl]? = some (.cells #[.slice A l0.length c] 25 (0, 0)) ∧ wr.heap[Bb]? = some (.cells #[.bool back] 4 (0, 0)) ∧ Below n₀ w wr))
    (fun v7 _ _ => l0.length - (intOf v7).toNat)
  case atStart => exact ⟨0, Nat.zero_le _, rfl, ⟨by simpa using h0, hOl, hB1, hB2, hbw⟩⟩
  case round =>
    clear hc1 hc2
    obtain ⟨k, hk, rfl, ⟨hj, hol, hb1, hb2, hb⟩⟩ := hrel
    have hc1 := cell_at hb1 0
    have hc2 := cell_at hb2 0
    simp only [List.getElem?_toArray, List.getElem?_cons_zero] at hc1 hc2
    by_cases hlt : k < l0.length
    · obtain ⟨i0, i1⟩ := wat_in l0.length back k hlt
      obtain ⟨ad, hA, x0, x1, x2⟩ := at_T35 (HC.out wr hb) (wat l0.length back k) i0 i1
      subst hA
      have hat := wl_at l0 back k hlt
      have htk : (wl back l0).take (k + 1) = (wl back l0).take k ++ [rd_T35 l0 (wat l0.length back k)] := by rw [List.take_add_one, hat]; rfl
      obtain ⟨x, hx⟩ : ∃ x, x = rd_T35 l0 (wat l0.length back k) := ⟨_, rfl⟩
      rw [← hx] at htk x0 x1 x2
      obtain ⟨fn, tmps, assign, body, hy, hR⟩ := hY _ x O wr hj ⟨(wl back l0).drop (k + 1), by rw [← htk, List.take_append_drop]⟩ hol
      have HR := Aside0.mk hR
      have HJ := Aside0.mk hj
      have HOL := Aside0.mk hol
      have HB1 := Aside0.mk hb1
      have HB2 := Aside0.mk hb2
      have HB := Aside0.mk hb
      have HTK := Aside0.mk htk
      clear hR hj hol hb1 hb2 hb h0 hOl hB1 hB2 hBl hBb hY hbw hx hat htk
      simp only [encL] at hy
      cases back
      all_goals
        have ht2 : ((l0.length : Int) - 1 - (k : Int)).toNat = l0.length - 1 - k := by omega
        simp only [wat, Bool.false_eq_true, if_false, if_true] at x0 x1 x2 i0 i1
        simp only [Int.toNat_natCast, ht2] at x0 x1 x2
        clear ht2
        gi_wp2
        refine ⟨fun _ => by omega, HR.out.mono ?_⟩
        rintro e W3 (⟨rfl, hJ3, hm3⟩ | ⟨rfl, hJx3, hm3⟩ | ⟨ch, rfl, hJp3, hm3⟩)
        · have hb1' := hm3.at HB1.out (fun h => h.1 (hO _ (.inl rfl)))
          have hb2' := hm3.at HB2.out (fun h => h.1 (hO _ (.inr rfl)))
          have hbn := hm3.below (Nat.le_trans hn0 HB.out.size) (fun k h => Nat.le_of_not_lt h.2)
          have hJ3' := Aside0.mk hJ3
          have hm3' := Aside0.mk hm3
          have hb1' := Aside0.mk hb1'
          have hb2' := Aside0.mk hb2'
          have hbn' := Aside0.mk (HB.out.trans hbn)
          clear hJ3 hm3 hy hc1 hc2 hbn
          gi_wp2
          go_roundw
          case rel => exact ⟨k + 1, by omega, by go_num, ⟨by rw [HTK.out]; exact hJ3'.out, fun j hj => Nat.lt_of_lt_of_le (HOL.out j hj) hm3'.out.size, hb1'.out, hb2'.out, hbn'.out⟩⟩
          case measure => simp [intOf]; omega
        · have hJx3' := Aside0.mk hJx3
          have hm3' := Aside0.mk hm3
          clear hJx3 hm3 hy hc1 hc2
          gi_wp2
          refine bodyPost_ret (results_none rfl _ _ _) rfl ?_
          exact .inl ⟨⟨_, rfl⟩, .inr ⟨_, O, hJx3'.out, fun j hj => Nat.lt_of_lt_of_le (HOL.out j hj) hm3'.out.size⟩⟩
        · exact ⟨rfl, .inr ⟨ch, rfl, _, O, hJp3, fun j hj => Nat.lt_of_lt_of_le (HOL.out j hj) hm3.size⟩⟩
    · have HJ := Aside0.mk hj
      have HOL := Aside0.mk hol
      have hkN : k = l0.length := by omega
      have HK := Aside0.mk hkN
      clear hj hol hb1 hb2 hb h0 hOl hB1 hB2 hBl hBb hY hkN hbw
      gi_wp2
      go_end0
      exact .inl ⟨⟨_, rfl⟩, .inl ⟨_, O, rfl, by have := HJ.out; rw [HK.out, ← wl_len back l0, List.take_length] at this; exact this, HOL.out⟩⟩
end Go.Proofs.YtinkbljjpafadaaTab
end

section
namespace Go.Proofs.YtinkbljjpafadaaTab
open Go.RowKit Go.Proofs.Ytinkbljjpafadaa.PAll Go.Proofs.YtinkbljjpafadaaW.PrintWords Go.Proofs.YtinkbljjpafadaaW.PrintLast Go.Proofs.YtinkbljjpafadaaRF Go.Proofs.YtinkbljjpafadaaRG
set_option linter.unusedSimpArgs false
set_option linter.unusedVariables false
attribute [local go_sem] Oper.semAt_some
def EntZ (n₀ : Nat) (Z : Nat → Prop) (label : Int) (w : World) (o : Option Val) (e : Ending) (w' : World) : Prop :=
  match o with
  | some (a, b, c, s, l) => ∃ v, e = .returned (.agg #[.int .i64 a, .int .i64 b, .int .u64 c, .string s, v]) ∧ Kd.R k35 35 w' n₀ (fun _ => True) v l ∧ Mv Z w w'
  | none => e = .panicked [{ v := .iface 113 (.agg #[.int .i64 label]), recovered := false }] ∧ Mv Z w w'
def CauZ (n₀ : Nat) (Z : Nat → Prop) (label : Int) (w : World) (o : Option Val) (e : Ending) (w' : World) : Prop :=
  match o with
  | some (a, b, c, s, l) => ∃ v, e = .returned (.tuple #[.agg #[.int .i64 a, .int .i64 b, .int .u64 c, .string s, v], .int .i64 0]) ∧ Kd.R k35 35 w' n₀ (fun _ => True) v l ∧ Mv Z w w'
  | none => e = .returned (.tuple #[.agg #[.int .i64 0, .int .i64 0, .int .u64 0, .string ⟨#[]⟩, .slice none 0 0], .int .i64 label]) ∧ Mv Z w w'
theorem mv_out {Z : Nat → Prop} {A B C : World} (h : Mv Z A B) (k : Below A.heap.size B C) : Mv Z A C :=
  ⟨k.os.trans h.os, k.tape.trans h.tape, k.output.trans h.output, Nat.le_trans h.size k.size, fun i hi ho => (k.block i hi).trans (h.block i hi ho)⟩
set_option maxHeartbeats 2000000 in
set_option maxRecDepth 100000 in
theorem caught_callsZ (n₀ : Nat) (Z : Nat → Prop) (g : Nat) (caps : Array Value) (label : Int) (o : Option Val) (w : World) (hg : g = 46 ∨ g = 54)
    (hn0 : n₀ ≤ w.heap.size) (hZ : ∀ k, Z k → n₀ ≤ k ∧ k < w.heap.size) (hdo : ∀ w', Below w.heap.size w w' → Calls Try.prog g caps w' (EntZ n₀ Z label w' o)) :
    Calls Try.prog 45 #[.func (.func g) #[] caps] w (CauZ n₀ Z label w o) := by
  have hu27 := Try.underlying27
  obtain ⟨W2, hW2⟩ : ∃ W2, W2 = (w.alloc (.cells #[.int .i64 0, .int .i64 0, .int .u64 0, .string ⟨#[]⟩, .slice none 0 0] 27)).alloc (.cells #[.int .i64 0] 3) := ⟨_, rfl⟩
  have hb2 : Below w.heap.size w W2 := by rw [hW2]; exact ((Below.refl _ _).alloc (Nat.le_refl _) _).alloc (by simp) _
  have k0 : W2.heap[w.heap.size]? = some (.cells #[.int .i64 0, .int .i64 0, .int .u64 0, .string ⟨#[]⟩, .slice none 0 0] 27 (0, 0)) := by rw [hW2]; exact at_alloc (at_new _ _ rfl) _
  have k1 : W2.heap[w.heap.size + 1]? = some (.cells #[.int .i64 0] 3 (0, 0)) := by rw [hW2]; exact at_new _ _ (by simp)
  have HDO := Aside0.mk (hdo W2 hb2)
  have HB2 := Aside0.mk hb2
  have HK := Aside0.mk (And.intro k0 k1)
  have HW2 := Aside0.mk hW2
  have hmf : ∀ (fn : Fn) (first cap : Array Value) (w : World), (Instr.makeFunc fn first cap).run Try.prog w = .ok (.func fn first cap) w := fun _ _ _ _ => rfl
  clear hdo hb2 k0 k1 hW2
  rcases hg with rfl | rfl
  all_goals
    go_enter_defers Try.func45, Try.ntmps45
    go_wp2_with fail
    rw [← HW2.out]
    refine HDO.out.mono ?_
    intro e w3 hE
    cases o with
    | none =>
      obtain ⟨rfl, hb3⟩ := hE
      have hk0 := hb3.at HK.out.1 (fun e => by have := (hZ _ e).2; omega)
      have hk1 := hb3.at HK.out.2 (fun e => by have := (hZ _ e).2; omega)
      have hB3 := (Mv.of_pure HB2.out Z).trans hb3
      refine leaves_cons (f := 63) (args := #[.pointer (some ⟨w.heap.size, 0, none⟩), .pointer (some ⟨w.heap.size + 1, 0, none⟩)]) (by simp) (by simp [go_sem]) ?_
      refine (caught_blame _ _ label 0 _ _ _ _ _ w3 hk0 hk1).mono ?_
      rintro e u' w4 ⟨rfl, rfl, h4, h5, h6⟩
      exact ⟨_, caught_res _ _ w.heap.size (w.heap.size + 1) _ _ _ _ _ _ rfl rfl h4 h5, rfl, mv_out hB3 (h6 _ (Nat.le_refl _) (by omega))⟩
    | some o =>
      obtain ⟨a, b, c, s, l⟩ := o
      obtain ⟨v, rfl, hR, hb3⟩ := hE
      obtain ⟨A3, c3, rfl⟩ := Kd.R_slice hR
      have hk0 := hb3.at HK.out.1 (fun e => by have := (hZ _ e).2; omega)
      have hk1 := hb3.at HK.out.2 (fun e => by have := (hZ _ e).2; omega)
      have hB3 := (Mv.of_pure HB2.out Z).trans hb3
      obtain ⟨p0, p1, p2, p3, p4⟩ := cells5 hk0
      have f0 := free_at hk0 0
      have f1 := free_at hk0 1
      have f2 := free_at hk0 2
      have f3 := free_at hk0 3
      have f4 := free_at hk0 4
      have q0 := cell_at hk1 0
      have g0 := free_at hk1 0
      simp only [List.getElem?_toArray, List.getElem?_cons_zero] at q0
      have K0 := Aside0.mk hk0
      have K1 := Aside0.mk hk1
      have HR := Aside0.mk hR
      have HB3 := Aside0.mk hB3
      have HN0 := Aside0.mk hn0
      clear hk0 hk1 hR hB3 hb3 HDO HK HB2 HW2 hn0 hZ
      go_wp2_with fail
      refine leaves_cons (f := 63) (args := #[.pointer (some ⟨w.heap.size, 0, none⟩), .pointer (some ⟨w.heap.size + 1, 0, none⟩)]) (by simp) (by simp [go_sem]) ?_
      refine (caught_idle _ _ _).mono ?_
      rintro e u' w4 ⟨rfl, rfl, rfl⟩
      have d2 := blk_put (blk_put (blk_put (blk_put (blk_put K0.out 0 (.int .i64 a) rfl) 1 (.int .i64 b) rfl) 2 (.int .u64 c) rfl) 3 (.string s) rfl) 4 (.slice A3 l.length c3) rfl
      have HR9 := Kd.R_set (Kd.R_set (Kd.R_set (Kd.R_set (Kd.R_set HR.out K0.out (by decide) 0 (.int .i64 a)) (blk_put K0.out 0 (.int .i64 a) rfl) (by decide) 1 (.int .i64 b)) (blk_put (blk_put K0.out 0 (.int .i64 a) rfl) 1 (.int .i64 b) rfl) (by decide) 2 (.int .u64 c)) (blk_put (blk_put (blk_put K0.out 0 (.int .i64 a) rfl) 1 (.int .i64 b) rfl) 2 (.int .u64 c) rfl) (by decide) 3 (.string s)) (blk_put (blk_put (blk_put (blk_put K0.out 0 (.int .i64 a) rfl) 1 (.int .i64 b) rfl) 2 (.int .u64 c) rfl) 3 (.string s) rfl) (by decide) 4 (.slice A3 l.length c3)
      have e1 := blk_far (blk_far (blk_far (blk_far (blk_far K1.out (by simp) (.int .i64 a) (p := ⟨w.heap.size, 0, none⟩)) (by simp) (.int .i64 b) (p := ⟨w.heap.size, 1, none⟩)) (by simp) (.int .u64 c) (p := ⟨w.heap.size, 2, none⟩)) (by simp) (.string s) (p := ⟨w.heap.size, 3, none⟩)) (by simp) (.slice A3 l.length c3) (p := ⟨w.heap.size, 4, none⟩)
      refine ⟨_, caught_res _ _ w.heap.size (w.heap.size + 1) (.int .i64 a) (.int .i64 b) (.int .u64 c) (.string s) (.slice A3 l.length c3) 0 rfl rfl (blk_far d2 (by simp) _) (blk_put e1 0 _ rfl), _, rfl, Kd.R_set HR9 e1 (by decide) 0 _, ?_⟩
      exact Mv.setCell (Mv.setCell (Mv.setCell (Mv.setCell (Mv.setCell (Mv.setCell HB3.out (.inr (Nat.le_refl _)) _) (.inr (Nat.le_refl _)) _) (.inr (Nat.le_refl _)) _) (.inr (Nat.le_refl _)) _) (.inr (Nat.le_refl _)) _) (.inr (by simp)) _
def okT (F : S35 → Val → Option Val) (l : List (S35)) (v : Val) : Option Val := l.foldl (fun o x => o.bind (F x)) (some v)
def runT (F : S35 → Val → Option Val) : List (S35) → Val → Option Val × Int
  | [], v => (some v, 0)
  | x :: r, v => match F x v with
    | some v' => runT F r v'
    | none => (none, x.f2)
theorem runT_some {F : S35 → Val → Option Val} {x : S35} {v v' : Val} (h : F x v = some v') (r : List (S35)) : runT F (x :: r) v = runT F r v' := by
  rw [runT, h]
theorem runT_none {F : S35 → Val → Option Val} {x : S35} {v : Val} (h : F x v = none) (r : List (S35)) : runT F (x :: r) v = (none, x.f2) := by
  rw [runT, h]
theorem okT_snoc (F : S35 → Val → Option Val) (l : List (S35)) (x : S35) (v : Val) : okT F (l ++ [x]) v = (okT F l v).bind (F x) := by
  unfold okT; rw [List.foldl_append]; rfl
theorem okT_none (F : S35 → Val → Option Val) (l : List (S35)) : l.foldl (fun (o : Option Val) x => o.bind (F x)) none = none := by
  induction l with
  | nil => rfl
  | cons x r ih => exact ih
theorem runT_app (F : S35 → Val → Option Val) : ∀ (l r : List (S35)) (v u : Val), okT F l v = some u → runT F (l ++ r) v = runT F r u
  | [], r, v, u, h => by
    obtain rfl := Option.some.inj h
    rfl
  | x :: l, r, v, u, h => by
    have h' : l.foldl (fun o x => o.bind (F x)) (F x v) = some u := h
    cases hx : F x v with
    | none => rw [hx, okT_none] at h'; cases h'
    | some v' =>
      rw [hx] at h'
      show runT F (x :: (l ++ r)) v = runT F r u
      rw [runT_some hx]
      exact runT_app F l r v' u h'
theorem runT_all (F : S35 → Val → Option Val) {l : List (S35)} {v u : Val} (h : okT F l v = some u) : runT F l v = (some u, 0) := by
  have := runT_app F l [] v u h
  rwa [List.append_nil] at this
theorem runT_blame (F : S35 → Val → Option Val) {l pre : List (S35)} {x : S35} {v u : Val} (h : okT F pre v = some u) (hx : F x u = none) (hp : pre ++ [x] <+: l) : runT F l v = (none, x.f2) := by
  obtain ⟨r, rfl⟩ := hp
  rw [List.append_assoc, runT_app F pre _ v u h]
  exact runT_none hx r
end Go.Proofs.YtinkbljjpafadaaTab
end

section
namespace Go.Proofs.YtinkbljjpafadaaRF
open Go.RowKit Go.Proofs.YtinkbljjpafadaaW.PrintWords
set_option linter.unusedSimpArgs false
set_option linter.unusedVariables false
section
variable {F : Fence} {n : Nat} {P : Program} {Q : Exit → Act → World → Prop} {a : Act} {w : World}
def wpV (F : Fence) (n : Nat) (P : Program) (c : Code) (Q : Exit → Act → World → Prop) (a : Act) (w : World) : Prop :=
  ∀ (b : Frame) (k : List Item) (cs : List Frame), b.roundOf = F.round → F.fn b.fn → (∃ fn, P.funcs[b.fn]? = some fn) → F.room (cs.length + 1 + n) →
    ∃ e a' w', Q e a' w' ∧ ArrivesIn (Machine.fenced P F) P (lone (b.atR a (.code c :: k)) cs w) b k cs e a' w'
theorem wpV_of {c : Code} (h : c.wpIn F n P Q a w) : wpV F n P c Q a w := fun b k cs h1 h2 _ h3 => h b k cs h1 h2 h3
theorem wpV_seq {x y : Code} (h : wpV F n P x (Exit.then (wpV F n P y Q) Q) a w) : wpV F n P (Code.seq x y) Q a w := by
  intro b k cs hro hb hv hr
  have h0 : (lone (b.atR a (.code (.seq x y) :: k)) cs w).fenced P F := fenced_calm hb hr rfl
  obtain ⟨e, a₁, w₁, hq, harr⟩ := h b (.code y :: k) cs hro hb hv hr
  cases e
  case normal =>
    obtain ⟨e₂, a₂, w₂, hq₂, harr₂⟩ := hq b k cs hro hb hv hr
    exact ⟨e₂, a₂, w₂, hq₂, .of_steps (.head h0 stepR_seq harr) harr₂⟩
  all_goals exact ⟨_, a₁, w₁, hq, .of_steps (.one h0 stepR_seq) (.pass (x := .code y) rfl (fun _ _ => .inl (by simp)) harr)⟩
theorem wpV_seq_of {x y : Code} (h : ∀ K : Act → World → Prop, (∀ a w, wpV F n P y Q a w → K a w) → x.wpIn F n P (Exit.then K Q) a w) : wpV F n P (Code.seq x y) Q a w :=
  wpV_seq (wpV_of (h _ fun _ _ h => h))
theorem wpV_block {id : Nat} {c : Code} (h : wpV F n P c (fun e a w => match e with | .normal => Q .normal a w | .panic ch => Q (.panic ch) a w | _ => False) a w) : wpV F n P (Code.block id c) Q a w := by
  intro b k cs hro hb hv hr
  have h0 : (lone (b.atR a (.code (.block id c) :: k)) cs w).fenced P F := fenced_calm hb hr rfl
  obtain ⟨e, a₁, w₁, hq, harr⟩ := h b (.inBlock id :: k) cs hro hb hv hr
  cases e
  case normal => exact ⟨.normal, a₁, w₁, hq, .head h0 stepR_block (StepsIn.trans harr (.one (fenced_calm hb hr rfl) stepR_inBlock))⟩
  case panic ch => exact ⟨_, a₁, w₁, hq, .of_steps (.one h0 stepR_block) harr⟩
  all_goals exact hq.elim
theorem callsIn_of_wpV {f : FuncId} {fn : Func} {c : Code} {args : Array Value} {w : World} {R : Ending → World → Prop}
    (hf : P.funcs[f]? = some fn) (hb : fn.body = some c) (hF : F.fn f)
    (h : wpV F n P c (bodyPostM F n P fn R) { tmps := args ++ Array.replicate (fn.ntmps - args.size) undef, defers := [] } w) (hro : F.round = none) : CallsIn F n P f args w R := by
  refine ⟨hF, fun cs hr => ?_⟩
  obtain ⟨b, hbd⟩ : ∃ b : Frame, b = { (default : Frame) with fn := f, kind := .normal, roundOf := none } := ⟨_, rfl⟩
  have hfn : b.fn = f := by rw [hbd]
  have henter : Frame.enter P f args .normal = b.atR { tmps := args ++ Array.replicate (fn.ntmps - args.size) undef, defers := [] } [.code c] := by
    simp [Frame.enter, Frame.atR, hf, hb, hbd]
  have hround : b.roundOf = none := by rw [hbd]
  obtain ⟨e, a', w', hq, harr⟩ := h b [] cs (hround.trans hro.symm) (hfn ▸ hF) ⟨fn, hfn ▸ hf⟩ hr
  rw [← henter] at harr
  have fin : ∀ (u : FrameMode) (todo : List Item), LeavesInM F n P fn a'.tmps R a'.defers u w' → StepsIn (Machine.fenced P F) P (lone (Frame.enter P f args .normal) cs w) (lone { b.atR a' todo with mode := u } cs w') →
      ∃ e w'' fr, R e w'' ∧ ComesIn (Machine.fenced P F) P (lone (Frame.enter P f args .normal) cs w) (lone fr cs w'') e ∧ fr.fn = f ∧ fr.leaving P w'' e := fun u todo hl hs0 => by
    subst hbd
    obtain ⟨e', w'', fr', hR, hs, hfn', hl'⟩ := leaves_stepsInM a'.defers u w' { ({ (default : Frame) with fn := f, kind := .normal, roundOf := none } : Frame).atR a' todo with mode := u } cs rfl rfl rfl hf rfl hF hr hl
    exact ⟨e', w'', fr', hR, ComesIn.of_steps hs0 hs, hfn', hl'⟩
  cases e
  case normal => exact fin .returning [] hq (StepsIn.trans harr (.one (fenced_calm (fr := b.atR a' []) (hfn ▸ hF) hr rfl) (stepR_end hround)))
  case ret =>
    obtain ⟨todo, hs⟩ := harr.1 hround
    exact fin .returning todo hq hs
  case panic ch =>
    obtain ⟨todo, hs⟩ := harr
    exact fin (.panicking ch) todo hq hs
  case exit id => exact hq.elim
  case goto l => exact hq.elim
  case outgrown => exact ⟨.outgrown, w', b, hq, harr.resolve_left (by subst hbd; simp), hfn, trivial⟩
theorem wpV_rangeFunc {g : Operand} {ps : Array Tmp} {assign body : Code}
    (h : ∀ fn, F.fn fn → (∃ f0, P.funcs[fn]? = some f0) → ∃ (l : Nat) (mark : List Deferred) (w₁ : World) (d : Deferred) (w₁' : World) (f : FuncId) (args : Array Value) (w₂ : World),
      (Instr.enterLoop fn a.tmps ps assign body F.round).run P w = .ok (l, mark) w₁ ∧ (resolve a.eval (rangeCall g l) 0).run P w₁ = .ok d w₁' ∧
      (∀ f', Target.leads P w₁' d.target d.args = some f' → F.fn f') ∧ (invoke d.target d.args).run P w₁' = .ok (.enter f args) w₂ ∧ (F.depth.isSome = true → 1 ≤ n) ∧
      CallsIn F (n - 1) P f args w₂ (rangePost F n P l Q { a with defers := mark ++ a.defers })) : wpV F n P (Code.rangeFunc g ps assign body) Q a w := by
  intro b k cs hro hb hv hr
  obtain ⟨l, mark, w₁, d, w₁', f, args, w₂, he, hres, hlead, hinv, hn, hF, hcall⟩ := h b.fn hb hv
  rw [← hro] at he
  have h0 : (lone (b.atR a (.code (.rangeFunc g ps assign body) :: k)) cs w).fenced P F := by
    refine fenced_lone (.inl hb) (fun f' hf' => hlead f' ?_) (Fence.room_le hr (by omega))
    have hev := Frame.eval_atR b a (.code (.rangeFunc g ps assign body) :: k)
    simp only [Frame.atR] at hev
    simp only [Frame.about, Frame.atR, he, hev, hres] at hf'
    exact hf'
  have hin := stepR_rangeFunc (P := P) (b := b) (a := a) (k := k) (cs := cs) (w := w) he hres hinv
  have hroom : F.room ((b.atR { a with defers := mark ++ a.defers } (.inRangeFunc l :: k) :: cs).length + 1 + (n - 1)) := Fence.room_enter hr hn
  obtain ⟨e, w₃, fr, hR, hgo, hfn, hout⟩ := hcall (b.atR { a with defers := mark ++ a.defers } (.inRangeFunc l :: k) :: cs) hroom
  cases e
  case outgrown =>
    obtain ⟨a₀, w₀, hq⟩ := hR
    exact ⟨.outgrown, a₀, w₀, hq, .inr (Outgrown.of_steps (.one hin) hgo)⟩
  case panicked ch =>
    have hl : (lone fr (b.atR { a with defers := mark ++ a.defers } (.inRangeFunc l :: k) :: cs) w₃).fenced P F := fenced_leaving (hfn ▸ hF) hroom hout
    refine ⟨.panic ch, _, w₃, hR, .inRangeFunc l :: k, .head h0 hin (StepsIn.trans hgo (.one hl ?_))⟩
    rw [← Frame.raise_atR]; exact step_leave_panicked hout
  case returned v =>
    have hl : (lone fr (b.atR { a with defers := mark ++ a.defers } (.inRangeFunc l :: k) :: cs) w₃).fenced P F := fenced_leaving (hfn ▸ hF) hroom hout
    obtain ⟨jump, w₄, hend, hj⟩ := hR
    have back : StepsIn (Machine.fenced P F) P (lone (b.atR a (.code (.rangeFunc g ps assign body) :: k)) cs w) (lone (b.atR { a with defers := mark ++ a.defers } ((jump.map Item.code).toList ++ k)) cs w₄) := by
      refine .head h0 hin (StepsIn.trans hgo (.head hl ?_ (.one (fenced_calm (fr := b.atR { a with defers := mark ++ a.defers } (.endRangeFunc l :: k)) hb hr rfl) (stepR_endRangeFunc hend))))
      rw [← finish_atR_inRangeFunc l v]; exact step_leave_returned hout
    cases jump
    case none => exact ⟨.normal, _, w₄, hj, back⟩
    case some c =>
      obtain ⟨e', a'', w₅, hq, harr⟩ := hj b k cs hro hb hr
      exact ⟨e', a'', w₅, hq, .of_steps back harr⟩
theorem rf_loopV {α : Type} {g : Operand} {ps : Array Tmp} {assign body : Code} {Q : Exit → Act → World → Prop} {a : Act} {w : World}
    (hro : F.round = none) (h1 : 1 ≤ n) (gf : Nat) (lb : Array Value) (hg : a.eval g = .func (.func gf) #[] lb) (hFg : F.fn gf) (eg : ∀ args w, (callFunc gf args).run P w = .ok (.enter gf args) w)
    (encs : α → Array Value) (hps : ∀ x, (encs x).size = ps.size) {Pre S : List α → Prop} (O₀ Rd : Nat → Prop) (hO₀ : ∀ k, O₀ k → k < w.heap.size) (hRd : ∀ k, Rd k → k < w.heap.size)
    (hiter : IterP F (n - 1) P gf lb encs Pre S O₀ Rd w)
    (I : List α → (Nat → Prop) → World → Prop) (Ix : Code → List α → (Nat → Prop) → World → Prop) (Ip : List PanicEntry → List α → (Nat → Prop) → World → Prop) (hI : Stable I) (hIx : ∀ c, Stable (Ix c)) (hIp : ∀ c, Stable (Ip c))
    (h0 : ∀ O, (∀ k, O k → O₀ k ∨ w.heap.size ≤ k) → ∀ W, Mv (fun _ => False) w W → I [] O W) (a₁ : α → World → Act) (gW : α → World → World) (hgW : ∀ x W, Below W.heap.size W (gW x W))
    (hassign : ∀ (l : Nat) (x : α) (W : World) (K : Act → World → Prop), K (a₁ x W) (gW x W) →
      assign.wpIn (F.inRound l) (n - 1 - 1) P (Exit.then K (fun _ _ _ => False)) { tmps := (ps.zip (encs x)).foldl (fun t (p, v) => t.setIfInBounds p v) a.tmps, defers := [] } W)
    (hbody : ∀ (l : Nat) (pre : List α) (x : α) (O : Nat → Prop) (W0 W : World), I pre O W0 → Pre (pre ++ [x]) → (∀ k, O k → k < W0.heap.size) → O l → (∃ r, W = (gW x W0).putObj l r ∧ l < W0.heap.size) → (∀ k, O₀ k → O k) → w.heap.size ≤ W0.heap.size →
      body.wpIn (F.inRound l) (n - 1 - 1) P (rpostP (fun k => O k ∨ Rd k) (fun s _ W => I s O W) (fun c s _ W => Ix c s O W) (fun c s _ W => Ip c s O W) (pre ++ [x]) W) (a₁ x W0) W)
    (hdone : ∀ (D : Nat) (xs : List α) (O : Nat → Prop) (W : World), w.heap.size ≤ D → O D → (∀ k, O k → k < W.heap.size) → S xs → I xs O W → W.heap[D]? = some (.deferred (some [])) → Q .normal { a with defers := { target := .collected D, args := #[] } :: a.defers } W)
    (hstop : ∀ (D : Nat) (c : Code) (pre : List α) (O : Nat → Prop) (W : World), w.heap.size ≤ D → O D → (∀ k, O k → k < W.heap.size) → Ix c pre O W → W.heap[D]? = some (.deferred (some [])) → c.wpIn F n P Q { a with defers := { target := .collected D, args := #[] } :: a.defers } W)
    (hpanic : ∀ (D : Nat) (ch : List PanicEntry) (pre : List α) (O : Nat → Prop) (W : World), w.heap.size ≤ D → O D → (∀ k, O k → k < W.heap.size) → Ip ch pre O W → W.heap[D]? = some (.deferred (some [])) → Q (.panic ch) { a with defers := { target := .collected D, args := #[] } :: a.defers } W) :
    wpV F n P (Code.rangeFunc g ps assign body) Q a w := by
  refine wpV_rangeFunc ?_
  intro fn hfn hfe
  obtain ⟨rec, hrec⟩ : ∃ rec : LoopState → Option Code → Loop, rec = fun s p => { state := s, pending := p, fn, tmps := a.tmps, params := ps, assign, body, defers := w.heap.size } := ⟨_, rfl⟩
  obtain ⟨W1, hW1⟩ : ∃ W1, W1 = (w.alloc (.deferred (some []))).alloc (.loop (rec .ready none)) := ⟨_, rfl⟩
  have hmv1 : Mv (fun _ => False) w W1 := by rw [hW1]; exact ((Mv.refl _ w).alloc _).alloc _
  have hsz1 : W1.heap.size = w.heap.size + 2 := by rw [hW1]; simp
  have hL1 : W1.heap[w.heap.size + 1]? = some (.loop (rec .ready none)) := by rw [hW1]; exact at_new _ _ (by simp)
  have hK1 : W1.heap[w.heap.size]? = some (.deferred (some [])) := by rw [hW1]; exact at_alloc (at_new _ _ rfl) _
  refine ⟨w.heap.size + 1, [{ target := .collected w.heap.size, args := #[] }], W1, { target := .fn (.func gf) lb, args := #[.func (.yield (w.heap.size + 1)) #[] #[]] }, W1, gf,
    #[.func (.yield (w.heap.size + 1)) #[] #[]] ++ lb, W1, ?_, ?_, ?_, ?_, fun _ => h1, ?_⟩
  · rw [hW1, hrec, hro]; exact run_enterLoop_outer _ _ _ _ _
  · simp only [resolve, hg]
    simp [go_sem, Deferred.ofValue, Act.eval]
  · intro f' hf'; simp [Target.leads] at hf'; subst hf'; exact hFg
  · simp [invoke, go_sem, eg]
  · -- what the parties say to each other: the record and the block for deferred calls are the statement's own
    let B : (Nat → Prop) → Nat → Prop := fun O k => O k ∨ k = w.heap.size ∨ k = w.heap.size + 1
    have hBm : ∀ (O O' : Nat → Prop), (∀ k, O k → O' k) → ∀ k, B O k → B O' k := fun O O' h k hk => hk.imp (h k) id
    let J : List α → (Nat → Prop) → World → Prop := fun pre O W => I pre (B O) W ∧ Mine (w.heap.size + 1) (.loop (rec .ready none)) O W ∧ Mine w.heap.size (.deferred (some [])) O W ∧ (w.heap.size ≤ W.heap.size) ∧ (∀ k, O₀ k → O k)
    let Jx : List α → (Nat → Prop) → World → Prop := fun pre O W => (∃ c, Ix c pre (B O) W ∧ Mine (w.heap.size + 1) (.loop (rec .done (some c))) O W) ∧ Mine w.heap.size (.deferred (some [])) O W
    let Jp : List PanicEntry → List α → (Nat → Prop) → World → Prop := fun ch pre O W => (Ip ch pre (B O) W ∧ Mine w.heap.size (.deferred (some [])) O W) ∧ w.heap.size + 1 < W.heap.size
    have hBst : ∀ {γ : Type} {K : γ → (Nat → Prop) → World → Prop}, Stable K → Stable (fun s O W => K s (B O) W) := fun hK s O O' W W' hs hm h1 h2 =>
      hK s (B O) (B O') W W' hs (hm.mono (fun k _ hk => Or.inl hk)) (hBm O O' h1) (fun k hk => by
        rcases hk with hk | hk
        · rcases h2 k hk with x | x
          · exact .inl (.inl x)
          · exact .inr x
        · exact .inl (.inr hk))
    have hJ : Stable J := (hBst hI).and ((Mine.stable (fun _ => _) (fun _ => _)).and ((Mine.stable (fun _ => _) (fun _ => _)).and (fun _ _ _ _ _ hs hm h1 _ => ⟨Nat.le_trans hs.1 hm.size, fun k hk => h1 k (hs.2 k hk)⟩)))
    have hJx : Stable Jx := (Stable.ex fun c => (hBst (hIx c)).and (Mine.stable (fun _ => _) (fun _ => _))).and (Mine.stable (fun _ => _) (fun _ => _))
    have hJp : ∀ ch, Stable (Jp ch) := fun ch => ((hBst (hIp ch)).and (Mine.stable (fun _ => _) (fun _ => _))).and (fun _ _ _ _ _ hs hm _ _ => Nat.lt_of_lt_of_le hs hm.size)
    have turn : ∀ {pre : List α} {O : Nat → Prop} {W : World} (o : Obj), I pre (B O) W → I pre (B O) (W.putObj (w.heap.size + 1) o) := fun o h =>
      hI _ _ _ _ _ h ((Mv.refl _ _).putObj (.inl (.inr (.inr rfl))) o) (fun _ h => h) (fun _ h => .inl h)
    have turnx : ∀ {c : Code} {pre : List α} {O : Nat → Prop} {W : World} (o : Obj), Ix c pre (B O) W → Ix c pre (B O) (W.putObj (w.heap.size + 1) o) := fun o h =>
      hIx _ _ _ _ _ _ h ((Mv.refl _ _).putObj (.inl (.inr (.inr rfl))) o) (fun _ h => h) (fun _ h => .inl h)
    refine (hiter (w.heap.size + 1) J Jx Jp O₀ W1 hJ hJx hJp ?_ hmv1 (fun _ h => h) (fun k hk => by have := hO₀ k hk; omega)
      ⟨h0 _ (fun k hk => by rcases hk with hk | hk | hk; exact .inl hk; exact .inr (by omega); exact .inr (by omega)) _ hmv1, ⟨hL1, fun e => by have := hO₀ _ e; omega⟩, ⟨hK1, fun e => by have := hO₀ _ e; omega⟩, hmv1.size, fun _ h => h⟩).mono ?_
    · -- one round
      rintro pre x O W ⟨hi, ⟨hl, hlO⟩, ⟨hk, hkO⟩, hws, hOO⟩ hpre hO
      have hlt : w.heap.size + 1 < W.heap.size := lt_of_at hl
      obtain ⟨Wg, hWg⟩ : ∃ Wg, Wg = gW x W := ⟨_, rfl⟩
      have hbg : Below W.heap.size W Wg := by rw [hWg]; exact hgW x W
      have hlg := (hbg.block _ hlt).trans hl
      have hkg := (hbg.block _ (lt_of_at hk)).trans hk
      have hltg : w.heap.size + 1 < Wg.heap.size := lt_of_at hlg
      have hy := run_yield (P := P) (args := encs x) hl (by rw [hrec]; exact hps x)
      rw [hrec] at hy
      refine ⟨fn, _, assign, body, hy, roundIn_of_wpInP hfn hfe (hassign _ x W _ ⟨_, (by rw [← hWg]; exact run_beginRound hlg (by rw [hrec])), ?_⟩)⟩
      have hl2 : (Wg.putObj (w.heap.size + 1) (.loop { rec .ready none with state := .busy })).heap[w.heap.size + 1]? = some (.loop { rec .ready none with state := .busy }) := World.putObj_heap_same hltg
      have hk2 : (Wg.putObj (w.heap.size + 1) (.loop { rec .ready none with state := .busy })).heap[w.heap.size]? = some (.deferred (some [])) := (World.putObj_heap_other (by omega)).trans hkg
      have hmv2 : Mv (fun k => ¬ O k ∧ ¬ Rd k) W (Wg.putObj (w.heap.size + 1) (.loop { rec .ready none with state := .busy })) := (Mv.of_pure hbg _).putObj (.inl ⟨hlO, fun e => by have := hRd _ e; omega⟩) _
      refine wpIn_mono (hbody _ pre x (B O) W _ hi hpre (fun k hk' => by rcases hk' with h | h | h; exact hO k h; omega; omega) (.inr (.inr rfl)) ⟨_, by rw [← hWg], hlt⟩ (fun k h => .inl (hOO k h)) hws) ?_
      have fin : ∀ (jump : Option Code) (W3 : World), Mv (fun k => ¬ (B O k ∨ Rd k)) (Wg.putObj (w.heap.size + 1) (.loop { rec .ready none with state := .busy })) W3 →
          (Instr.endRound (w.heap.size + 1) jump).run P W3 = .ok (.bool jump.isNone) (W3.putObj (w.heap.size + 1) (.loop (rec (if jump.isNone then .ready else .done) jump))) ∧
          (W3.putObj (w.heap.size + 1) (.loop (rec (if jump.isNone then .ready else .done) jump))).heap[w.heap.size + 1]? = some (.loop (rec (if jump.isNone then .ready else .done) jump)) ∧
          (W3.putObj (w.heap.size + 1) (.loop (rec (if jump.isNone then .ready else .done) jump))).heap[w.heap.size]? = some (.deferred (some [])) ∧
          Mv (fun k => ¬ O k ∧ ¬ Rd k) W (W3.putObj (w.heap.size + 1) (.loop (rec (if jump.isNone then .ready else .done) jump))) := fun jump W3 hm3 => by
        have hl3 := hm3.at hl2 (fun h => h (.inl (.inr (.inr rfl))))
        have hk3 := hm3.at hk2 (fun h => h (.inl (.inr (.inl rfl))))
        have := run_endRound (P := P) jump hl3
        refine ⟨?_, World.putObj_heap_same (lt_of_at hl3), (World.putObj_heap_other (by omega)).trans hk3, ?_⟩
        · rw [hrec] at this ⊢; exact this
        · refine (hmv2.trans (hm3.mono (fun k _ h => ?_))).putObj (.inl ⟨hlO, fun e => by have := hRd _ e; omega⟩) _
          exact ⟨fun e => h (.inl (.inl e)), fun e => h (.inr e)⟩
      rintro e a3 W3 hp
      cases e with
      | normal =>
        obtain ⟨hm3, hi3⟩ := hp
        obtain ⟨hr, hl4, hk4, hm4⟩ := fin none W3 hm3
        exact ⟨_, _, hr, .inl ⟨rfl, ⟨turn _ hi3, ⟨hl4, hlO⟩, ⟨hk4, hkO⟩, Nat.le_trans hws hm4.size, hOO⟩, hm4⟩⟩
      | ret =>
        obtain ⟨hm3, hi3⟩ := hp
        obtain ⟨hr, hl4, hk4, hm4⟩ := fin (some .ret) W3 hm3
        exact ⟨_, _, hr, .inr (.inl ⟨rfl, ⟨⟨.ret, turnx _ hi3, hl4, hlO⟩, hk4, hkO⟩, hm4⟩)⟩
      | exit id =>
        obtain ⟨hm3, hi3⟩ := hp
        obtain ⟨hr, hl4, hk4, hm4⟩ := fin (some (.exit id)) W3 hm3
        exact ⟨_, _, hr, .inr (.inl ⟨rfl, ⟨⟨.exit id, turnx _ hi3, hl4, hlO⟩, hk4, hkO⟩, hm4⟩)⟩
      | goto t =>
        obtain ⟨hm3, hi3⟩ := hp
        obtain ⟨hr, hl4, hk4, hm4⟩ := fin (some (.goto t)) W3 hm3
        exact ⟨_, _, hr, .inr (.inl ⟨rfl, ⟨⟨.goto t, turnx _ hi3, hl4, hlO⟩, hk4, hkO⟩, hm4⟩)⟩
      | panic ch =>
        obtain ⟨hd, hm3, hi3⟩ := hp
        have hl3 := hm3.at hl2 (fun h => h (.inl (.inr (.inr rfl))))
        have hk3 := hm3.at hk2 (fun h => h (.inl (.inr (.inl rfl))))
        exact ⟨hd, .inr (.inr ⟨ch, rfl, ⟨⟨hi3, hk3, hkO⟩, lt_of_at hl3⟩, hmv2.trans (hm3.mono (fun k _ h => ⟨fun e => h (.inl (.inl e)), fun e => h (.inr e)⟩))⟩)⟩
      | outgrown => exact hp.elim
    · -- behind the iterator
      rintro e W2 (⟨⟨v, rfl⟩, (⟨xs, O, hS, ⟨hi, ⟨hl, hlO⟩, ⟨hk, hkO⟩, _⟩, hO⟩ | ⟨pre, O, ⟨⟨c, hi, hl, hlO⟩, hk, hkO⟩, hO⟩)⟩ | ⟨ch, rfl, pre, O, ⟨⟨hi, hk, hkO⟩, hlt⟩, hO⟩)
      · exact ⟨none, _, by have := run_endLoop (P := P) hl (by rw [hrec]; simp); rw [hrec] at this; exact this,
          hdone _ xs (B O) _ (Nat.le_refl _) (.inr (.inl rfl)) (fun k hk' => by have := lt_of_at hl; simp; rcases hk' with h | h | h; exact hO k h; omega; omega) hS (turn _ hi) ((World.putObj_heap_other (by omega)).trans hk)⟩
      · exact ⟨some c, _, by have := run_endLoop (P := P) hl (by rw [hrec]; simp); rw [hrec] at this; exact this,
          hstop _ c pre (B O) _ (Nat.le_refl _) (.inr (.inl rfl)) (fun k hk' => by have := lt_of_at hl; simp; rcases hk' with h | h | h; exact hO k h; omega; omega) (turnx _ hi) ((World.putObj_heap_other (by omega)).trans hk)⟩
      · exact hpanic _ ch pre (B O) _ (Nat.le_refl _) (.inr (.inl rfl)) (fun k hk' => by rcases hk' with h | h | h; exact hO k h; omega; omega) hi hk
end
end Go.Proofs.YtinkbljjpafadaaRF
end

section
namespace Go.Proofs.YtinkbljjpafadaaTab
open Go.RowKit Go.Proofs.Ytinkbljjpafadaa.PAll Go.Proofs.YtinkbljjpafadaaW.PrintWords Go.Proofs.YtinkbljjpafadaaW.PrintLast Go.Proofs.YtinkbljjpafadaaRF Go.Proofs.YtinkbljjpafadaaRG
set_option linter.unusedSimpArgs false
set_option linter.unusedVariables false
attribute [local go_sem] Oper.semAt_some
structure Caps (A0 : Option Addr) (c0 n0 : Nat) (merged inn : Bool) (mem : ByteArray) (param : Int) (oa ob oc : Int) (os : ByteArray) (Ao : Option Addr) (co no : Nat) (bo bi bt bm bp bg : Nat) (w : World) : Prop where
  o : w.heap[bo]? = some (.cells #[.int .i64 oa, .int .i64 ob, .int .u64 oc, .string os, .slice Ao no co] 27 (0, 0))
  i : w.heap[bi]? = some (.cells #[.bool inn] 4 (0, 0))
  t : w.heap[bt]? = some (.cells #[.slice A0 n0 c0] 22 (0, 0))
  m : w.heap[bm]? = some (.cells #[.string mem] 9 (0, 0))
  p : w.heap[bp]? = some (.cells #[.int .i64 param] 3 (0, 0))
  g : w.heap[bg]? = some (.cells #[.bool merged] 4 (0, 0))
theorem Caps.below {A0 : Option Addr} {c0 n0 : Nat} {merged inn : Bool} {mem : ByteArray} {param oa ob oc : Int} {os : ByteArray} {Ao : Option Addr} {co no bo bi bt bm bp bg : Nat} {w w' : World} (h : Caps A0 c0 n0 merged inn mem param oa ob oc os Ao co no bo bi bt bm bp bg w) (hb : Below w.heap.size w w') : Caps A0 c0 n0 merged inn mem param oa ob oc os Ao co no bo bi bt bm bp bg w' :=
  ⟨(hb.block _ (lt_of_at h.o)).trans h.o, (hb.block _ (lt_of_at h.i)).trans h.i, (hb.block _ (lt_of_at h.t)).trans h.t, (hb.block _ (lt_of_at h.m)).trans h.m, (hb.block _ (lt_of_at h.p)).trans h.p, (hb.block _ (lt_of_at h.g)).trans h.g⟩
theorem Caps.far {A0 : Option Addr} {c0 n0 : Nat} {merged inn : Bool} {mem : ByteArray} {param oa ob oc : Int} {os : ByteArray} {Ao : Option Addr} {co no bo bi bt bm bp bg : Nat} {w w' : World} (h : Caps A0 c0 n0 merged inn mem param oa ob oc os Ao co no bo bi bt bm bp bg w) {bv : Nat} {cs : Array Value} (hv : w.heap[bv]? = some (.cells cs 27 (0, 0))) (hbo : bo ≠ bv) (hm : ∀ k, k ≠ bv → k < w.heap.size → w'.heap[k]? = w.heap[k]?) : Caps A0 c0 n0 merged inn mem param oa ob oc os Ao co no bo bi bt bm bp bg w' := by
  refine ⟨(hm _ hbo (lt_of_at h.o)).trans h.o, (hm _ (fun e => ?_) (lt_of_at h.i)).trans h.i, (hm _ (fun e => ?_) (lt_of_at h.t)).trans h.t, (hm _ (fun e => ?_) (lt_of_at h.m)).trans h.m, (hm _ (fun e => ?_) (lt_of_at h.p)).trans h.p, (hm _ (fun e => ?_) (lt_of_at h.g)).trans h.g⟩
  · have := h.i; rw [e, hv] at this; cases this
  · have := h.t; rw [e, hv] at this; cases this
  · have := h.m; rw [e, hv] at this; cases this
  · have := h.p; rw [e, hv] at this; cases this
  · have := h.g; rw [e, hv] at this; cases this
theorem mv_moreL {bv : Nat} {w W W' : World} {O : Nat → Prop} (h : Mv (fun k => k = bv) w W) (hm : Mv O W W') (ho : ∀ k, O k → w.heap.size ≤ k) : Mv (fun k => k = bv) w W' :=
  ((h.mono (fun k _ e => (.inl e : k = bv ∨ w.heap.size ≤ k))).trans (hm.mono (fun k _ e => .inr (ho k e)))).mono (fun k hk e => e.elim id (fun x => by omega))
theorem mv_more {bv : Nat} {w W W' : World} {O : Nat → Prop} (h : Mv (fun k => k = bv) w W) (hm : Mv O W W') (ho : ∀ k, O k → w.heap.size < k) : Mv (fun k => k = bv) w W' := mv_moreL h hm (fun k e => Nat.le_of_lt (ho k e))
structure TI (F : S35 → Val → Option Val) (v0 : Val) (w : World) (n₀ bv : Nat) (pre : List (S35)) (O : Nat → Prop) (W : World) : Prop where
  ex : ∃ u1 u2 u3 u4 ul Au cu, okT F pre v0 = some (u1, u2, u3, u4, ul) ∧ W.heap[bv]? = some (.cells #[.int .i64 u1, .int .i64 u2, .int .u64 u3, .string u4, .slice Au ul.length cu] 27 (0, 0)) ∧ Kd.R k35 35 W n₀ (fun k => ¬ O k) (.slice Au ul.length cu) ul
  mv : Mv (fun k => k = bv) w W
  z : W.heap[w.heap.size]? = some (.cells #[.int .i64 0, .int .i64 0, .int .u64 0, .string ⟨#[]⟩, .slice none 0 0] 27 (0, 0))
  o : ∀ k, O k → w.heap.size < k
theorem TI.stable (F : S35 → Val → Option Val) (v0 : Val) (w : World) (n₀ bv : Nat) (hb : bv < w.heap.size) : Stable (TI F v0 w n₀ bv) := by
  intro s O O' W W' h hm h1 h2
  obtain ⟨u1, u2, u3, u4, ul, Au, cu, e1, e2, e3⟩ := h.ex
  refine ⟨⟨u1, u2, u3, u4, ul, Au, cu, e1, hm.at e2 (fun e => by have := h.o _ e; omega), Kd.R_mono (Kd.R_step (Kd.R_bound e3) (fun k hk hl => hm.block k hl hk.1)) (fun k hk e => (h2 k e).elim hk.1 (fun x => by have := hk.2.2.1; omega))⟩, mv_more h.mv hm h.o, hm.at h.z (fun e => by have := h.o _ e; omega), fun k e => (h2 k e).elim (h.o k) (fun x => by have := lt_of_at h.z; omega)⟩
structure TP (w : World) (bv : Nat) (res : Option Val × Int) (ch : List PanicEntry) (pre : List (S35)) (O : Nat → Prop) (W : World) : Prop where
  no : res.1 = none
  ch : ch = [blameE res.2 false]
  mv : Mv (fun k => k = bv) w W
  o : ∀ k, O k → w.heap.size < k
  sz : w.heap.size < W.heap.size
theorem TP.stable (w : World) (bv : Nat) (res : Option Val × Int) (ch : List PanicEntry) : Stable (TP w bv res ch) := by
  intro s O O' W W' h hm h1 h2
  exact ⟨h.no, h.ch, mv_more h.mv hm h.o, fun k e => (h2 k e).elim (h.o k) (fun x => by have := h.sz; omega), Nat.lt_of_lt_of_le h.sz hm.size⟩
set_option maxHeartbeats 4000000 in
set_option maxRecDepth 100000 in
theorem through1_calls (A0 : Option Addr) (c0 : Nat) (t : List (S64)) (merged inn : Bool) (mem : ByteArray) (param : Int) (oa ob oc : Int) (os : ByteArray) (Ao : Option Addr) (co : Nat) (lo : List (S35)) (a b c : Int) (s : ByteArray) (Av : Option Addr) (cv : Nat) (lv : List (S35))
    (F : S35 → Val → Option Val) (w : World) (n₀ bv bo bi bt bm bp bg : Nat) (hn0 : n₀ ≤ w.heap.size) (hnv : n₀ ≤ bv) (hbo : bo ≠ bv)
    (hv : w.heap[bv]? = some (.cells #[.int .i64 a, .int .i64 b, .int .u64 c, .string s, .slice Av lv.length cv] 27 (0, 0)))
    (hcap : Caps A0 c0 t.length merged inn mem param oa ob oc os Ao co lo.length bo bi bt bm bp bg w)
    (hCt : ∀ w', Below n₀ w w' → Kd.C k64 w' A0 t.length t) (hCo : ∀ w', Below n₀ w w' → Kd.C k35 w' Ao lo.length lo)
    (hcl : ∀ w', Below n₀ w w' → Calls Try.prog 52 #[.slice Av lv.length cv] w' fun e w'' => ∃ v, e = .returned v ∧ Kd.R k35 35 w'' w'.heap.size (fun _ => True) v lv ∧ Below w'.heap.size w' w'')
    (hs : Small t) (hfl : ∀ x ∈ lo, (fieldsL t x.f1).length < 4398046511104) (hlo : lo.length < 4398046511104) (hoa : oa = 7)
    (hstep : ∀ pre x u1 u2 u3 u4 ul, pre ++ [x] <+: wl inn lo → okT F pre (a, b, c, s, lv) = some (u1, u2, u3, u4, ul) →
      ((typedF t x.f1 mem param).2 = false ∧ F x (u1, u2, u3, u4, ul) = some (u1, u2, u3, u4, ul)) ∨
      ((typedF t x.f1 mem param).2 = true ∧ ∀ w' A cc, Below n₀ w w' → Kd.C k35 w' A ul.length ul → ul.length ≤ cc →
        Calls Try.prog (if x.f0 = inn then 36 else 47) #[.agg #[.slice A0 t.length c0, .bool merged, .int .i64 x.f2], .agg #[.int .i64 u1, .int .i64 u2, .int .u64 u3, .string u4, .slice A ul.length cc], .string (typedF t x.f1 mem param).1] w' (Ent x.f2 w' (F x (u1, u2, u3, u4, ul))))) :
    Calls Try.prog 54 #[.pointer (some ⟨bv, 0, none⟩), .pointer (some ⟨bo, 0, none⟩), .pointer (some ⟨bi, 0, none⟩), .pointer (some ⟨bt, 0, none⟩), .pointer (some ⟨bm, 0, none⟩), .pointer (some ⟨bp, 0, none⟩), .pointer (some ⟨bg, 0, none⟩)] w (EntZ n₀ (fun k => k = bv) (runT F (wl inn lo) (a, b, c, s, lv)).2 w (runT F (wl inn lo) (a, b, c, s, lv)).1) := by
  have hu27 := Try.underlying27
  obtain ⟨W1, hW1⟩ : ∃ W1, W1 = w.alloc (.cells #[.int .i64 0, .int .i64 0, .int .u64 0, .string ⟨#[]⟩, .slice none 0 0] 27) := ⟨_, rfl⟩
  have hb1 : Below w.heap.size w W1 := by rw [hW1]; exact (Below.refl _ _).alloc (Nat.le_refl _) _
  have k1 : W1.heap[w.heap.size]? = some (.cells #[.int .i64 0, .int .i64 0, .int .u64 0, .string ⟨#[]⟩, .slice none 0 0] 27 (0, 0)) := by rw [hW1]; exact at_new _ _ rfl
  have hv1 := (hb1.block _ (lt_of_at hv)).trans hv
  have hcap1 := hcap.below hb1
  have HCL := Aside0.mk (hcl W1 (hb1.mono hn0))
  have hvr := hv1
  rw [hW1] at hvr
  obtain ⟨_, _, _, _, x4⟩ := cells5 hvr
  have HW1 := Aside0.mk hW1
  have HK1 := Aside0.mk (And.intro k1 (And.intro hv1 hcap1))
  have HB1 := Aside0.mk hb1
  clear hvr hW1 k1 hv1 hcap1 hb1 hcl
  refine (callsIn_wide (n := 6)).1 ?_
  refine callsIn_of_wpV Try.func54 rfl trivial ?_ rfl
  simp only [Try.ntmps54, List.size_toArray, List.length_cons, List.length_nil, Nat.reduceAdd, Nat.reduceSub, Array.replicate_succ, Array.replicate_zero, List.push_toArray, List.append_toArray, List.nil_append, List.cons_append]
  refine wpV_seq_of (fun K hK => ?_)
  gi_wp2
  refine wpV_seq_of (fun K hK => ?_)
  gi_wp2
  rw [← HW1.out]
  refine ⟨trivial, (callsIn_wide.2 HCL.out).mono ?_⟩
  rintro e w2 ⟨v2, rfl, hR2, hb2⟩
  obtain ⟨A2, c2, hv2⟩ := Kd.R_slice hR2
  subst hv2
  have hk2 := (hb2.block _ (lt_of_at HK1.out.1)).trans HK1.out.1
  have hvv := (hb2.block _ (lt_of_at HK1.out.2.1)).trans HK1.out.2.1
  have hcap2 := HK1.out.2.2.below hb2
  have hB2 := HB1.out.trans (hb2.mono HB1.out.size)
  obtain ⟨z0, z1, z2, z3, z4⟩ := cells5 hvv
  have fz4 := free_at hvv 4
  obtain ⟨W3, hW3⟩ : ∃ W3, W3 = w2.setCell ⟨bv, 4, none⟩ (.slice A2 lv.length c2) := ⟨_, rfl⟩
  have hfar : ∀ k, k ≠ bv → W3.heap[k]? = w2.heap[k]? := fun k hk => by rw [hW3]; exact Below.heap_setCell _ _ _ _ hk
  have hcap3 := hcap2.far hvv hbo (fun k hk _ => hfar k hk)
  have hlv : bv < w.heap.size := lt_of_at hv
  have hk3 := (hfar _ (show w.heap.size ≠ bv by omega)).trans hk2
  have hv3 : W3.heap[bv]? = some (.cells #[.int .i64 a, .int .i64 b, .int .u64 c, .string s, .slice A2 lv.length c2] 27 (0, 0)) := by rw [hW3]; exact blk_put hvv 4 _ rfl
  have hR3 : Kd.R k35 35 W3 W1.heap.size (fun _ => True) (.slice A2 lv.length c2) lv := by rw [hW3]; exact Kd.R_set hR2 hvv (by decide) 4 _
  have hB3 : Below n₀ w W3 := by rw [hW3]; exact below_setB (hB2.mono hn0) hnv _
  have hm3 : Mv (fun k => k = bv) w W3 := by rw [hW3]; exact (Mv.of_pure hB2 (fun k => k = bv)).setCell (p := ⟨bv, 4, none⟩) (.inl rfl) _
  have hs3 : W3.heap.size = w2.heap.size := by rw [hW3]; simp
  have hco := hcap3.o
  have hci := hcap3.i
  rw [hW3] at hco hci
  obtain ⟨o0, _, _, _, o4⟩ := cells5 hco
  have i0 := cell_at hci 0
  simp only [List.getElem?_toArray, List.getElem?_cons_zero] at i0
  subst hoa
  have H3 := Aside0.mk (And.intro hcap3 (And.intro hk3 (And.intro hv3 (And.intro hR3 (And.intro hB3 hm3)))))
  have HW3 := Aside0.mk hW3
  have HSZ := Aside0.mk (show w.heap.size + 1 ≤ W3.heap.size by have h1 := lt_of_at hk3; omega)
  clear x4 hR2 hb2 hk2 hvv hcap2 hB2 hfar hcap3 hk3 hv3 hR3 hB3 hm3 hco hci hW3 hs3 HCL HK1
  gi_wp2
  refine wpV_seq_of (fun K hK => ?_)
  gi_wp2
  refine wpV_seq (wpV_seq_of (fun K hK => ?_))
  gi_wp2
  rw [← HW3.out]
  refine ⟨trivial, (callsIn_wide.2 (cwalk_calls _ _ _ _ _)).mono ?_⟩
  rintro e w4 ⟨rfl, rfl⟩
  gi_wp2
  obtain ⟨W5, hW5⟩ : ∃ W5, W5 = (W3.alloc (.cells #[.slice Ao lo.length co] 25)).alloc (.cells #[.bool inn] 4) := ⟨_, rfl⟩
  have hb5 : Below W3.heap.size W3 W5 := by rw [hW5]; exact ((Below.refl _ _).alloc (Nat.le_refl _) _).alloc (by simp) _
  have l1 : W5.heap[W3.heap.size]? = some (.cells #[.slice Ao lo.length co] 25 (0, 0)) := by rw [hW5]; exact at_alloc (at_new _ _ rfl) _
  have l2 : W5.heap[W3.heap.size + 1]? = some (.cells #[.bool inn] 4 (0, 0)) := by rw [hW5]; exact at_new _ _ (by simp)
  have hs5 : W5.heap.size = W3.heap.size + 2 := by rw [hW5]; simp
  have hsz := HSZ.out
  have hbvl : bv < w.heap.size := lt_of_at hv
  obtain ⟨hcap3, hk3, hv3, hR3, hB3, hm3⟩ := H3.out
  have hB5 : Below n₀ w W5 := hB3.trans (hb5.mono (Nat.le_trans hn0 (by omega)))
  have hm5 : Mv (fun k => k = bv) w W5 := hm3.trans (Mv.of_pure hb5 _)
  rw [← hW5]
  refine wpV_block ?_
  refine rf_loopV (n := 6) rfl (by omega) 68 #[.pointer (some ⟨W3.heap.size, 0, none⟩), .pointer (some ⟨W3.heap.size + 1, 0, none⟩)] rfl trivial (enters_ Try.func68 (by kernel_rfl) rfl)
    (fun x : S35 => #[encL x]) (fun _ => rfl) (fun k => k = W3.heap.size ∨ k = W3.heap.size + 1) (fun k => k < n₀) (fun k hk => by rcases hk with rfl | rfl <;> omega) (fun k h => by omega)
    (cwalk1_iter 5 (by omega) Ao co lo hlo inn W3.heap.size (W3.heap.size + 1) n₀ W5 (by omega) (fun w' h => hCo w' (hB5.trans h)) l1 l2)
    (TI F (a, b, c, s, lv) w n₀ bv) (fun _ _ _ _ => False) (TP w bv (runT F (wl inn lo) (a, b, c, s, lv))) (TI.stable F _ w n₀ bv hbvl) (fun _ _ _ _ _ _ h _ _ _ => h) (TP.stable w bv _) ?_ (fun x W => { tmps := #[.pointer (some ⟨bv, 0, none⟩), .pointer (some ⟨bo, 0, none⟩), .pointer (some ⟨bi, 0, none⟩), .pointer (some ⟨bt, 0, none⟩), .pointer (some ⟨bm, 0, none⟩), .pointer (some ⟨bp, 0, none⟩), .pointer (some ⟨bg, 0, none⟩), .pointer (some ⟨w.heap.size, 0, none⟩), .pointer (some ⟨W.heap.size, 0, none⟩), undef, undef, undef, undef, .pointer (some ⟨bv, 4, none⟩), .slice Av lv.length cv, .slice A2 lv.length c2, .pointer (some ⟨bv, 4, none⟩), .pointer (some ⟨bo, 0, none⟩), .int .i64 7, .bool false, undef, .pointer (some ⟨bo, 4, none⟩), .slice Ao lo.length co, .bool inn, .func (.func 68) #[] #[.pointer (some ⟨W3.heap.size, 0, none⟩), .pointer (some ⟨W3.heap.size + 1, 0, none⟩)], encL x, undef, undef, undef, undef, undef, undef, undef, undef, undef, undef, undef, undef, undef, undef, undef, undef, undef, undef, undef, undef, undef, undef, undef, undef, undef, undef, undef, undef, undef], defers := [] }) (fun x W => W.alloc (.cells #[.bool x.f0, .string x.f1, .int .i64 x.f2] 35)) (fun x W => (Below.refl _ _).alloc (Nat.le_refl _) _) ?assign ?body ?done ?stop ?panic
  · intro O hO W hW
    have hO' : ∀ k, O k → W3.heap.size ≤ k := fun k hk => by rcases hO k hk with (h | h) | h <;> omega
    have hRa := Kd.R_below (Kd.R_mono (ok' := fun k => ¬ O k) (Kd.R_bound hR3) (fun k hk e => by have h1 := hO' k e; have h2 := hk.2.2.1; omega)) hb5
    have hRb := Kd.R_step (w1 := W) hRa (fun k _ hl => hW.block k hl (fun h => h))
    refine ⟨⟨a, b, c, s, lv, A2, c2, rfl, hW.at ((hb5.block _ (lt_of_at hv3)).trans hv3) (fun h => h), Kd.R_lower hRb (Nat.le_trans hn0 HB1.out.size)⟩, hm5.trans (hW.mono (fun _ _ h => h.elim)), hW.at ((hb5.block _ (lt_of_at hk3)).trans hk3) (fun h => h), fun k hk => by have := hO' k hk; omega⟩
  case stop => intro D cc pre O W _ _ _ h; exact h.elim
  case assign =>
    intro l x W K hK
    simp only [encL] at hK ⊢
    gi_wp2
    exact hK
  case body =>
    intro l pre x O W0 W hI hpre hOl hOlp hrec hOO hsz2
    obtain ⟨rl, hWe, hll⟩ := hrec
    obtain ⟨u1, u2, u3, u4, ul, Au, cu, e1, e2, e3⟩ := hI.ex
    have hlw := hI.o l hOlp
    have hm : Mv (fun k => k = l) W0 W := by rw [hWe]; exact (Mv.of_pure ((Below.refl W0.heap.size W0).alloc (Nat.le_refl _) _) (fun k => k = l)).putObj (r := l) (.inl rfl) _
    have hmw := mv_more hI.mv hm (fun k e => by rw [e]; exact hlw)
    have hcapW := hcap.far hv hbo (fun k hk hl => hmw.block k hl hk)
    have hvW := hm.at e2 (fun e => by omega)
    have hzW := hm.at hI.z (fun e => by omega)
    have hxW : W.heap[W0.heap.size]? = some (.cells #[.bool x.f0, .string x.f1, .int .i64 x.f2] 35 (0, 0)) := by rw [hWe]; exact (World.putObj_heap_other (by omega)).trans (at_new _ _ rfl)
    have hbW : Below n₀ w W := hmw.below hn0 (fun k e => by omega)
    have hst := hstep pre x u1 u2 u3 u4 ul hpre e1
    have hxin : x ∈ lo := by
      have h1 : x ∈ wl inn lo := hpre.subset (by simp)
      unfold wl at h1
      split at h1
      · exact List.mem_reverse.1 h1
      · exact h1
    have HTY := Aside0.mk (typed_calls A0 c0 t x.f1 mem param W (hCt W hbW) hs (hfl x hxin))
    have ht0 := cell_at hcapW.t 0
    have hm0 := cell_at hcapW.m 0
    have hp0 := cell_at hcapW.p 0
    have hx1 := cell_at hxW 1
    simp only [List.getElem?_toArray, List.getElem?_cons_zero, List.getElem?_cons_succ] at ht0 hm0 hp0 hx1
    obtain ⟨T, hT⟩ : ∃ T, T = typedF t x.f1 mem param := ⟨_, rfl⟩
    rw [← hT] at hst HTY
    have HST := Aside0.mk hst
    have HI := Aside0.mk hI
    clear hst hT hWe
    gi_wp2
    refine ⟨trivial, (CallsIn.inRound l (callsIn_wide.2 HTY.out)).mono ?_⟩
    rintro e w7 ⟨rfl, hb7⟩
    have hRW := Kd.R_step (w1 := W) e3 (fun k hk hl => hm.block k hl (fun e => hk (e ▸ hOlp)))
    rcases HST.out with ⟨h2, h3⟩ | ⟨h2, hcall⟩
    · have TN := Aside0.mk (show TI F (a, b, c, s, lv) w n₀ bv (pre ++ [x]) O w7 from
        ⟨⟨u1, u2, u3, u4, ul, Au, cu, by rw [okT_snoc, e1]; exact h3, (hb7.block _ (lt_of_at hvW)).trans hvW, Kd.R_below hRW hb7⟩, mv_more hmw (Mv.of_pure hb7 (fun _ => False)) (fun _ h => h.elim), (hb7.block _ (lt_of_at hzW)).trans hzW, HI.out.o⟩)
      have HB7 := Aside0.mk hb7
      rw [h2]
      clear hb7 HST HTY h3 hRW hstep hcap hcapW
      gi_wp2
      exact ⟨Mv.of_pure HB7.out _, TN.out⟩
    · obtain ⟨W8, hW8⟩ : ∃ W8, W8 = w7.alloc (.cells #[.slice A0 t.length c0, .bool merged, .int .i64 x.f2] 73) := ⟨_, rfl⟩
      have hb8 : Below W.heap.size W W8 := by rw [hW8]; exact hb7.alloc hb7.size _
      have hcap8 := hcapW.below hb8
      have hcap7 := hcapW.below hb7
      have hx7 := (hb7.block _ (lt_of_at hxW)).trans hxW
      have hx8 := (hb8.block _ (lt_of_at hxW)).trans hxW
      have hv8 := (hb8.block _ (lt_of_at hvW)).trans hvW
      have hn8 : W8.heap[w7.heap.size]? = some (.cells #[.slice A0 t.length c0, .bool merged, .int .i64 x.f2] 73 (0, 0)) := by rw [hW8]; exact at_new _ _ rfl
      have hv8r := hv8
      have hn8r := hn8
      have hx8r := hx8
      have hi8r := hcap8.i
      rw [hW8] at hv8r hn8r hx8r hi8r
      have t0 := cell_at hcap7.t 0
      have g0 := cell_at hcap7.g 0
      have x2 := cell_at hx7 2
      have n0 := cell_at hn8r 0
      have n1 := cell_at hn8r 1
      have n2 := cell_at hn8r 2
      have x0 := cell_at hx8r 0
      have i0 := cell_at hi8r 0
      obtain ⟨v0, v1, v2, v3, v4⟩ := cells5 hv8r
      simp only [List.getElem?_toArray, List.getElem?_cons_zero, List.getElem?_cons_succ] at t0 g0 x2 n0 n1 n2 x0 i0
      have hmf : ∀ (fn : Fn) (first cap : Array Value) (w : World), (Instr.makeFunc fn first cap).run Try.prog w = .ok (.func fn first cap) w := fun _ _ _ _ => rfl
      have hu73 := Try.underlying73
      rw [h2]
      have HW8 := Aside0.mk hW8
      have HB8 := Aside0.mk hb8
      have HV8 := Aside0.mk hv8
      have HRW := Aside0.mk hRW
      have HCALL := Aside0.mk hcall
      clear hW8 hb8 hcap8 hcap7 hx7 hx8 hv8 hn8 hv8r hn8r hx8r hi8r hRW hcall HST HTY hstep hcap hcapW hb7
      by_cases hq : x.f0 = inn
      · have hq1 : (x.f0 == inn) = true := by simpa using hq
        have hq2 : decide (x.f0 = inn) = true := decide_eq_true hq
        have HQ := Aside0.mk hq
        clear hq
        obtain ⟨_, _, ea, hcc, hC8⟩ := Kd.R_reads (Kd.R_below HRW.out HB8.out)
        cases ea
        have HC := Aside0.mk (HCALL.out W8 _ _ (hbW.trans (HB8.out.mono (Nat.le_trans hn0 hmw.size))) hC8 hcc)
        rw [if_pos HQ.out] at HC
        clear hC8 hcc HCALL
        gi_wp2
        rw [← HW8.out]
        refine ⟨trivial, (CallsIn.inRound l (callsIn_wide.2 HC.out)).mono ?_⟩
        intro e w9 hE
        have hB9 : Below W.heap.size W w9 := by
          cases ho : F x (u1, u2, u3, u4, ul) with
          | none => rw [ho] at hE; exact HB8.out.trans (hE.2.mono HB8.out.size)
          | some r => rw [ho] at hE; obtain ⟨_, _, _, h⟩ := hE; exact HB8.out.trans (h.mono HB8.out.size)
        have hv9 := (hB9.block _ (lt_of_at hvW)).trans hvW
        cases ho : F x (u1, u2, u3, u4, ul) with
        | none =>
          rw [ho] at hE
          obtain ⟨rfl, hb9⟩ := hE
          have hrun := runT_blame F e1 ho hpre
          show rpostP _ _ _ _ _ _ (.panic _) _ _
          refine ⟨rfl, Mv.of_pure hB9 _, ?_⟩
          exact ⟨by rw [hrun], by rw [hrun]; rfl, mv_more hmw (Mv.of_pure hB9 (fun _ => False)) (fun _ h => h.elim), HI.out.o, Nat.lt_of_lt_of_le (lt_of_at hzW) hB9.size⟩
        | some r =>
          obtain ⟨r1, r2, r3, r4, r5⟩ := r
          rw [ho] at hE
          obtain ⟨v9, rfl, hR9, hb9⟩ := hE
          obtain ⟨A9, c9, rfl⟩ := Kd.R_slice hR9
          have f0 := free_at hv9 0
          have f1 := free_at hv9 1
          have f2 := free_at hv9 2
          have f3 := free_at hv9 3
          have f4 := free_at hv9 4
          obtain ⟨z0, z1, z2, z3, z4⟩ := cells5 hv9
          have HR9 := Aside0.mk hR9
          have HB9 := Aside0.mk hB9
          have HV9 := Aside0.mk hv9
          have HO := Aside0.mk ho
          clear hR9 hB9 hv9 ho hb9
          gi_wp2
          obtain ⟨WE, hWE⟩ : ∃ WE, WE = ((((w9.setCell ⟨bv, 0, none⟩ (.int .i64 r1)).setCell ⟨bv, 1, none⟩ (.int .i64 r2)).setCell ⟨bv, 2, none⟩ (.int .u64 r3)).setCell ⟨bv, 3, none⟩ (.string r4)).setCell ⟨bv, 4, none⟩ (.slice A9 r5.length c9) := ⟨_, rfl⟩
          rw [← hWE]
          have d1 := blk_put HV9.out 0 (.int .i64 r1) rfl
          have d2 := blk_put d1 1 (.int .i64 r2) rfl
          have d3 := blk_put d2 2 (.int .u64 r3) rfl
          have d4 := blk_put d3 3 (.string r4) rfl
          have d5 := blk_put d4 4 (.slice A9 r5.length c9) rfl
          have hRE := Kd.R_set (Kd.R_set (Kd.R_set (Kd.R_set (Kd.R_set HR9.out HV9.out (by decide) 0 (.int .i64 r1)) d1 (by decide) 1 (.int .i64 r2)) d2 (by decide) 2 (.int .u64 r3)) d3 (by decide) 3 (.string r4)) d4 (by decide) 4 (.slice A9 r5.length c9)
          have hmE : Mv (fun k => k = bv) W WE := by
            rw [hWE]
            exact ((((((Mv.of_pure HB9.out (fun k => k = bv)).setCell (p := ⟨bv, 0, none⟩) (.inl rfl) _).setCell (p := ⟨bv, 1, none⟩) (.inl rfl) _).setCell (p := ⟨bv, 2, none⟩) (.inl rfl) _).setCell (p := ⟨bv, 3, none⟩) (.inl rfl) _).setCell (p := ⟨bv, 4, none⟩) (.inl rfl) _)
          rw [← hWE] at d5 hRE
          refine ⟨hmE.mono (fun k _ e h => ?_), ⟨⟨r1, r2, r3, r4, r5, A9, c9, by rw [okT_snoc, e1]; exact HO.out, d5, ?_⟩, ?_, ?_, HI.out.o⟩⟩
          · rcases h with h | h
            · have := HI.out.o _ h; omega
            · omega
          · have hsz8 := HB8.out.size
            have hsz := hmw.size
            have hOk : ∀ k, O k → k < W8.heap.size := fun k hk => by have h1 := hOl k hk; have h2 := hm.size; omega
            have hle : n₀ ≤ W8.heap.size := by have := lt_of_at hv; omega
            exact Kd.R_lower (Kd.R_mono (ok' := fun k => ¬ O k) (Kd.R_bound hRE) (fun k hk e => by have h1 := hOk k e; have h2 := hk.2.2.1; omega)) hle
          · exact hmw.trans hmE
          · exact hmE.at hzW (fun e => by omega)
      · have hq1 : (x.f0 == inn) = false := by simpa using hq
        have hq2 : decide (x.f0 = inn) = false := decide_eq_false hq
        have HQ := Aside0.mk hq
        clear hq
        obtain ⟨_, _, ea, hcc, hC8⟩ := Kd.R_reads (Kd.R_below HRW.out HB8.out)
        cases ea
        have HC := Aside0.mk (HCALL.out W8 _ _ (hbW.trans (HB8.out.mono (Nat.le_trans hn0 hmw.size))) hC8 hcc)
        rw [if_neg HQ.out] at HC
        clear hC8 hcc HCALL
        gi_wp2
        rw [← HW8.out]
        refine ⟨trivial, (CallsIn.inRound l (callsIn_wide.2 HC.out)).mono ?_⟩
        intro e w9 hE
        have hB9 : Below W.heap.size W w9 := by
          cases ho : F x (u1, u2, u3, u4, ul) with
          | none => rw [ho] at hE; exact HB8.out.trans (hE.2.mono HB8.out.size)
          | some r => rw [ho] at hE; obtain ⟨_, _, _, h⟩ := hE; exact HB8.out.trans (h.mono HB8.out.size)
        have hv9 := (hB9.block _ (lt_of_at hvW)).trans hvW
        cases ho : F x (u1, u2, u3, u4, ul) with
        | none =>
          rw [ho] at hE
          obtain ⟨rfl, hb9⟩ := hE
          have hrun := runT_blame F e1 ho hpre
          show rpostP _ _ _ _ _ _ (.panic _) _ _
          refine ⟨rfl, Mv.of_pure hB9 _, ?_⟩
          exact ⟨by rw [hrun], by rw [hrun]; rfl, mv_more hmw (Mv.of_pure hB9 (fun _ => False)) (fun _ h => h.elim), HI.out.o, Nat.lt_of_lt_of_le (lt_of_at hzW) hB9.size⟩
        | some r =>
          obtain ⟨r1, r2, r3, r4, r5⟩ := r
          rw [ho] at hE
          obtain ⟨v9, rfl, hR9, hb9⟩ := hE
          obtain ⟨A9, c9, rfl⟩ := Kd.R_slice hR9
          have f0 := free_at hv9 0
          have f1 := free_at hv9 1
          have f2 := free_at hv9 2
          have f3 := free_at hv9 3
          have f4 := free_at hv9 4
          obtain ⟨z0, z1, z2, z3, z4⟩ := cells5 hv9
          have HR9 := Aside0.mk hR9
          have HB9 := Aside0.mk hB9
          have HV9 := Aside0.mk hv9
          have HO := Aside0.mk ho
          clear hR9 hB9 hv9 ho hb9
          gi_wp2
          obtain ⟨WE, hWE⟩ : ∃ WE, WE = ((((w9.setCell ⟨bv, 0, none⟩ (.int .i64 r1)).setCell ⟨bv, 1, none⟩ (.int .i64 r2)).setCell ⟨bv, 2, none⟩ (.int .u64 r3)).setCell ⟨bv, 3, none⟩ (.string r4)).setCell ⟨bv, 4, none⟩ (.slice A9 r5.length c9) := ⟨_, rfl⟩
          rw [← hWE]
          have d1 := blk_put HV9.out 0 (.int .i64 r1) rfl
          have d2 := blk_put d1 1 (.int .i64 r2) rfl
          have d3 := blk_put d2 2 (.int .u64 r3) rfl
          have d4 := blk_put d3 3 (.string r4) rfl
          have d5 := blk_put d4 4 (.slice A9 r5.length c9) rfl
          have hRE := Kd.R_set (Kd.R_set (Kd.R_set (Kd.R_set (Kd.R_set HR9.out HV9.out (by decide) 0 (.int .i64 r1)) d1 (by decide) 1 (.int .i64 r2)) d2 (by decide) 2 (.int .u64 r3)) d3 (by decide) 3 (.string r4)) d4 (by decide) 4 (.slice A9 r5.length c9)
          have hmE : Mv (fun k => k = bv) W WE := by
            rw [hWE]
            exact ((((((Mv.of_pure HB9.out (fun k => k = bv)).setCell (p := ⟨bv, 0, none⟩) (.inl rfl) _).setCell (p := ⟨bv, 1, none⟩) (.inl rfl) _).setCell (p := ⟨bv, 2, none⟩) (.inl rfl) _).setCell (p := ⟨bv, 3, none⟩) (.inl rfl) _).setCell (p := ⟨bv, 4, none⟩) (.inl rfl) _)
          rw [← hWE] at d5 hRE
          refine ⟨hmE.mono (fun k _ e h => ?_), ⟨⟨r1, r2, r3, r4, r5, A9, c9, by rw [okT_snoc, e1]; exact HO.out, d5, ?_⟩, ?_, ?_, HI.out.o⟩⟩
          · rcases h with h | h
            · have := HI.out.o _ h; omega
            · omega
          · have hsz8 := HB8.out.size
            have hsz := hmw.size
            have hOk : ∀ k, O k → k < W8.heap.size := fun k hk => by have h1 := hOl k hk; have h2 := hm.size; omega
            have hle : n₀ ≤ W8.heap.size := by have := lt_of_at hv; omega
            exact Kd.R_lower (Kd.R_mono (ok' := fun k => ¬ O k) (Kd.R_bound hRE) (fun k hk e => by have h1 := hOk k e; have h2 := hk.2.2.1; omega)) hle
          · exact hmw.trans hmE
          · exact hmE.at hzW (fun e => by omega)
  case panic =>
    intro D ch pre O W hD hOD hOl hI hk
    have hmD : Mv (fun k => k = bv) w (W.putObj D (.deferred none)) := mv_more hI.mv ((Mv.refl (fun k => k = D) W).putObj (r := D) (.inl rfl) _) (fun k e => by rw [e]; omega)
    refine ⟨by simp, .inl ⟨D, _, rfl, run_takeDeferred hk, ?_⟩⟩
    show EntZ n₀ (fun k => k = bv) _ w _ (.panicked ch) (W.putObj D (.deferred none))
    rw [hI.no, hI.ch]
    exact ⟨rfl, hmD⟩
  case done =>
    intro D xs O W hD hOD hOl hS hI hk
    subst hS
    obtain ⟨u1, u2, u3, u4, ul, Au, cu, e1, e2, e3⟩ := hI.ex
    have hrun := runT_all F e1
    rw [hrun]
    obtain ⟨y0, y1, y2, y3, y4⟩ := cells5 e2
    obtain ⟨p0, p1, p2, p3, p4⟩ := cells5 hI.z
    have f0 := free_at hI.z 0
    have f1 := free_at hI.z 1
    have f2 := free_at hI.z 2
    have f3 := free_at hI.z 3
    have f4 := free_at hI.z 4
    have HI := Aside0.mk hI
    have HE3 := Aside0.mk e3
    have HKD := Aside0.mk (And.intro hk (And.intro hOD (show w.heap.size < D by omega)))
    clear hI e3 e2 e1 hrun hk hOD hOl hD hstep
    refine wpV_of ?_
    gi_wp2
    have d2 := blk_put (blk_put (blk_put (blk_put (blk_put HI.out.z 0 (.int .i64 u1) rfl) 1 (.int .i64 u2) rfl) 2 (.int .u64 u3) rfl) 3 (.string u4) rfl) 4 (.slice Au ul.length cu) rfl
    have hR9 := Kd.R_set (Kd.R_set (Kd.R_set (Kd.R_set (Kd.R_set HE3.out HI.out.z (by decide) 0 (.int .i64 u1)) (blk_put HI.out.z 0 (.int .i64 u1) rfl) (by decide) 1 (.int .i64 u2)) (blk_put (blk_put HI.out.z 0 (.int .i64 u1) rfl) 1 (.int .i64 u2) rfl) (by decide) 2 (.int .u64 u3)) (blk_put (blk_put (blk_put HI.out.z 0 (.int .i64 u1) rfl) 1 (.int .i64 u2) rfl) 2 (.int .u64 u3) rfl) (by decide) 3 (.string u4)) (blk_put (blk_put (blk_put (blk_put HI.out.z 0 (.int .i64 u1) rfl) 1 (.int .i64 u2) rfl) 2 (.int .u64 u3) rfl) 3 (.string u4) rfl) (by decide) 4 (.slice Au ul.length cu)
    obtain ⟨WE, hWE⟩ : ∃ WE, WE = ((((W.setCell ⟨w.heap.size, 0, none⟩ (.int .i64 u1)).setCell ⟨w.heap.size, 1, none⟩ (.int .i64 u2)).setCell ⟨w.heap.size, 2, none⟩ (.int .u64 u3)).setCell ⟨w.heap.size, 3, none⟩ (.string u4)).setCell ⟨w.heap.size, 4, none⟩ (.slice Au ul.length cu) := ⟨_, rfl⟩
    have hmE : Mv (fun k => k = w.heap.size) W WE := by
      rw [hWE]
      exact (((((Mv.refl (fun k => k = w.heap.size) W).setCell (p := ⟨w.heap.size, 0, none⟩) (.inl rfl) _).setCell (p := ⟨w.heap.size, 1, none⟩) (.inl rfl) _).setCell (p := ⟨w.heap.size, 2, none⟩) (.inl rfl) _).setCell (p := ⟨w.heap.size, 3, none⟩) (.inl rfl) _).setCell (p := ⟨w.heap.size, 4, none⟩) (.inl rfl) _
    have hDE := hmE.at HKD.out.1 (fun e => by have := HKD.out.2.2; omega)
    rw [← hWE] at d2 hR9 ⊢
    refine leaves_all [D] WE ⟨by simp, fun E hE => by rw [List.mem_singleton.1 hE]; exact hDE⟩ ?_
    have hzF : (WE.putObj D (.deferred none)).heap[w.heap.size]? = some (.cells #[.int .i64 u1, .int .i64 u2, .int .u64 u3, .string u4, .slice Au ul.length cu] 27 (0, 0)) := (World.putObj_heap_other (by have := HKD.out.2.2; omega)).trans d2
    refine ⟨_, results_cell_row rfl _ _ w.heap.size 27 #[.int .i64 u1, .int .i64 u2, .int .u64 u3, .string u4, .slice Au ul.length cu] (0, 0) _ rfl hzF Try.underlying27 rfl (by kernel_rfl), ?_⟩
    refine ⟨_, rfl, Kd.R_mono (Kd.R_step (w1 := WE.putObj D (.deferred none)) hR9 (fun k hk _ => World.putObj_heap_other (fun e => hk (e ▸ HKD.out.2.1)))) (fun _ _ => trivial), ?_⟩
    exact mv_moreL HI.out.mv (O := fun k => k = w.heap.size ∨ k = D) ((hmE.mono (fun _ _ h => .inl h)).putObj (r := D) (.inl (.inr rfl)) _) (fun k e => by have := HKD.out.2.2; omega)
end Go.Proofs.YtinkbljjpafadaaTab
end

section
namespace Go.Proofs.YtinkbljjpafadaaTab
open Go.RowKit Go.Proofs.Ytinkbljjpafadaa.PAll Go.Proofs.YtinkbljjpafadaaW.PrintWords Go.Proofs.YtinkbljjpafadaaW.PrintLast Go.Proofs.YtinkbljjpafadaaRF Go.Proofs.YtinkbljjpafadaaRG
set_option linter.unusedSimpArgs false
set_option linter.unusedVariables false
attribute [local go_sem] Oper.semAt_some
set_option maxHeartbeats 4000000 in
set_option maxRecDepth 100000 in
theorem through1_idle (A0 : Option Addr) (c0 : Nat) (t : List (S64)) (merged inn : Bool) (mem : ByteArray) (param : Int) (oa ob oc : Int) (os : ByteArray) (Ao : Option Addr) (co : Nat) (lo : List (S35)) (a b c : Int) (s : ByteArray) (Av : Option Addr) (cv : Nat) (lv : List (S35))
    (w : World) (n₀ bv bo bi bt bm bp bg : Nat) (hn0 : n₀ ≤ w.heap.size) (hnv : n₀ ≤ bv) (hbo : bo ≠ bv)
    (hv : w.heap[bv]? = some (.cells #[.int .i64 a, .int .i64 b, .int .u64 c, .string s, .slice Av lv.length cv] 27 (0, 0)))
    (hcap : Caps A0 c0 t.length merged inn mem param oa ob oc os Ao co lo.length bo bi bt bm bp bg w)
    (hcl : ∀ w', Below n₀ w w' → Calls Try.prog 52 #[.slice Av lv.length cv] w' fun e w'' => ∃ v, e = .returned v ∧ Kd.R k35 35 w'' w'.heap.size (fun _ => True) v lv ∧ Below w'.heap.size w' w'')
    (hoa : oa ≠ 7) :
    Calls Try.prog 54 #[.pointer (some ⟨bv, 0, none⟩), .pointer (some ⟨bo, 0, none⟩), .pointer (some ⟨bi, 0, none⟩), .pointer (some ⟨bt, 0, none⟩), .pointer (some ⟨bm, 0, none⟩), .pointer (some ⟨bp, 0, none⟩), .pointer (some ⟨bg, 0, none⟩)] w (EntZ n₀ (fun k => k = bv) 0 w (some (a, b, c, s, lv))) := by
  have hu27 := Try.underlying27
  obtain ⟨W1, hW1⟩ : ∃ W1, W1 = w.alloc (.cells #[.int .i64 0, .int .i64 0, .int .u64 0, .string ⟨#[]⟩, .slice none 0 0] 27) := ⟨_, rfl⟩
  have hb1 : Below w.heap.size w W1 := by rw [hW1]; exact (Below.refl _ _).alloc (Nat.le_refl _) _
  have k1 : W1.heap[w.heap.size]? = some (.cells #[.int .i64 0, .int .i64 0, .int .u64 0, .string ⟨#[]⟩, .slice none 0 0] 27 (0, 0)) := by rw [hW1]; exact at_new _ _ rfl
  have hv1 := (hb1.block _ (lt_of_at hv)).trans hv
  have hcap1 := hcap.below hb1
  have HCL := Aside0.mk (hcl W1 (hb1.mono hn0))
  have hvr := hv1
  rw [hW1] at hvr
  obtain ⟨_, _, _, _, x4⟩ := cells5 hvr
  have HW1 := Aside0.mk hW1
  have HK1 := Aside0.mk (And.intro k1 (And.intro hv1 hcap1))
  have HB1 := Aside0.mk hb1
  clear hvr hW1 k1 hv1 hcap1 hb1 hcl
  refine (callsIn_wide (n := 6)).1 ?_
  refine callsIn_of_wpV Try.func54 rfl trivial ?_ rfl
  simp only [Try.ntmps54, List.size_toArray, List.length_cons, List.length_nil, Nat.reduceAdd, Nat.reduceSub, Array.replicate_succ, Array.replicate_zero, List.push_toArray, List.append_toArray, List.nil_append, List.cons_append]
  refine wpV_seq_of (fun K hK => ?_)
  gi_wp2
  refine wpV_seq_of (fun K hK => ?_)
  gi_wp2
  rw [← HW1.out]
  refine ⟨trivial, (callsIn_wide.2 HCL.out).mono ?_⟩
  rintro e w2 ⟨v2, rfl, hR2, hb2⟩
  obtain ⟨A2, c2, hv2⟩ := Kd.R_slice hR2
  subst hv2
  have hk2 := (hb2.block _ (lt_of_at HK1.out.1)).trans HK1.out.1
  have hvv := (hb2.block _ (lt_of_at HK1.out.2.1)).trans HK1.out.2.1
  have hcap2 := HK1.out.2.2.below hb2
  have hB2 := HB1.out.trans (hb2.mono HB1.out.size)
  obtain ⟨z0, z1, z2, z3, z4⟩ := cells5 hvv
  have fz4 := free_at hvv 4
  obtain ⟨W3, hW3⟩ : ∃ W3, W3 = w2.setCell ⟨bv, 4, none⟩ (.slice A2 lv.length c2) := ⟨_, rfl⟩
  have hfar : ∀ k, k ≠ bv → W3.heap[k]? = w2.heap[k]? := fun k hk => by rw [hW3]; exact Below.heap_setCell _ _ _ _ hk
  have hcap3 := hcap2.far hvv hbo (fun k hk _ => hfar k hk)
  have hlv : bv < w.heap.size := lt_of_at hv
  have hk3 := (hfar _ (show w.heap.size ≠ bv by omega)).trans hk2
  have hv3 : W3.heap[bv]? = some (.cells #[.int .i64 a, .int .i64 b, .int .u64 c, .string s, .slice A2 lv.length c2] 27 (0, 0)) := by rw [hW3]; exact blk_put hvv 4 _ rfl
  have hR3 : Kd.R k35 35 W3 W1.heap.size (fun _ => True) (.slice A2 lv.length c2) lv := by rw [hW3]; exact Kd.R_set hR2 hvv (by decide) 4 _
  have hB3 : Below n₀ w W3 := by rw [hW3]; exact below_setB (hB2.mono hn0) hnv _
  have hm3 : Mv (fun k => k = bv) w W3 := by rw [hW3]; exact (Mv.of_pure hB2 (fun k => k = bv)).setCell (p := ⟨bv, 4, none⟩) (.inl rfl) _
  have hs3 : W3.heap.size = w2.heap.size := by rw [hW3]; simp
  have hco := hcap3.o
  have hci := hcap3.i
  rw [hW3] at hco hci
  obtain ⟨o0, _, _, _, o4⟩ := cells5 hco
  have i0 := cell_at hci 0
  simp only [List.getElem?_toArray, List.getElem?_cons_zero] at i0
  have hq1 : (oa != 7) = true := by simpa using hoa
  have hq2 : (oa == 7) = false := by simpa using hoa
  have hq3 : decide (oa = 7) = false := decide_eq_false hoa
  have HQ := Aside0.mk hoa
  obtain ⟨y0, y1, y2, y3, y4⟩ := cells5 hv3
  obtain ⟨p0, p1, p2, p3, p4⟩ := cells5 hk3
  have f0 := free_at hk3 0
  have f1 := free_at hk3 1
  have f2 := free_at hk3 2
  have f3 := free_at hk3 3
  have f4 := free_at hk3 4
  rw [hW3] at y0 y1 y2 y3 y4 p0 p1 p2 p3 p4 f0 f1 f2 f3 f4
  have H3 := Aside0.mk (And.intro hcap3 (And.intro hk3 (And.intro hv3 (And.intro hR3 (And.intro hB3 hm3)))))
  have HW3 := Aside0.mk hW3
  have HSZ := Aside0.mk (show w.heap.size + 1 ≤ W3.heap.size by have h1 := lt_of_at hk3; omega)
  clear x4 hR2 hb2 hk2 hvv hcap2 hB2 hfar hcap3 hk3 hv3 hR3 hB3 hm3 hco hci hW3 hs3 HCL HK1 hoa
  gi_wp2
  refine wpV_of ?_
  gi_wp2
  rw [← HW3.out]
  obtain ⟨hcap3, hk3, hv3, hR3, hB3, hm3⟩ := H3.out
  have d2 := blk_put (blk_put (blk_put (blk_put (blk_put hk3 0 (.int .i64 a) rfl) 1 (.int .i64 b) rfl) 2 (.int .u64 c) rfl) 3 (.string s) rfl) 4 (.slice A2 lv.length c2) rfl
  have hR9 := Kd.R_set (Kd.R_set (Kd.R_set (Kd.R_set (Kd.R_set hR3 hk3 (by decide) 0 (.int .i64 a)) (blk_put hk3 0 (.int .i64 a) rfl) (by decide) 1 (.int .i64 b)) (blk_put (blk_put hk3 0 (.int .i64 a) rfl) 1 (.int .i64 b) rfl) (by decide) 2 (.int .u64 c)) (blk_put (blk_put (blk_put hk3 0 (.int .i64 a) rfl) 1 (.int .i64 b) rfl) 2 (.int .u64 c) rfl) (by decide) 3 (.string s)) (blk_put (blk_put (blk_put (blk_put hk3 0 (.int .i64 a) rfl) 1 (.int .i64 b) rfl) 2 (.int .u64 c) rfl) 3 (.string s) rfl) (by decide) 4 (.slice A2 lv.length c2)
  obtain ⟨WE, hWE⟩ : ∃ WE, WE = ((((W3.setCell ⟨w.heap.size, 0, none⟩ (.int .i64 a)).setCell ⟨w.heap.size, 1, none⟩ (.int .i64 b)).setCell ⟨w.heap.size, 2, none⟩ (.int .u64 c)).setCell ⟨w.heap.size, 3, none⟩ (.string s)).setCell ⟨w.heap.size, 4, none⟩ (.slice A2 lv.length c2) := ⟨_, rfl⟩
  have hmE : Mv (fun k => k = w.heap.size) W3 WE := by
    rw [hWE]
    exact (((((Mv.refl (fun k => k = w.heap.size) W3).setCell (p := ⟨w.heap.size, 0, none⟩) (.inl rfl) _).setCell (p := ⟨w.heap.size, 1, none⟩) (.inl rfl) _).setCell (p := ⟨w.heap.size, 2, none⟩) (.inl rfl) _).setCell (p := ⟨w.heap.size, 3, none⟩) (.inl rfl) _).setCell (p := ⟨w.heap.size, 4, none⟩) (.inl rfl) _
  have hbsz := HB1.out.size
  rw [← hWE] at d2 hR9 ⊢
  refine leaves_all [] WE ⟨by simp, fun E hE => by cases hE⟩ ?_
  refine ⟨_, results_cell_row rfl _ _ w.heap.size 27 #[.int .i64 a, .int .i64 b, .int .u64 c, .string s, .slice A2 lv.length c2] (0, 0) _ rfl d2 Try.underlying27 rfl (by kernel_rfl), ?_⟩
  refine ⟨_, rfl, Kd.R_lower hR9 (Nat.le_trans hn0 hbsz), ?_⟩
  exact mv_moreL hm3 hmE (fun k e => by omega)
def Thr (label : Int) (w : World) (o : Option Val) (e : Ending) (w' : World) : Prop :=
  match o with
  | some (a, b, c, s, l) => ∃ v, e = .returned (.tuple #[.agg #[.int .i64 a, .int .i64 b, .int .u64 c, .string s, v], .int .i64 0]) ∧ Kd.R k35 35 w' w.heap.size (fun _ => True) v l ∧ Below w.heap.size w w'
  | none => e = .returned (.tuple #[.agg #[.int .i64 0, .int .i64 0, .int .u64 0, .string ⟨#[]⟩, .slice none 0 0], .int .i64 label]) ∧ Below w.heap.size w w'
set_option maxHeartbeats 2000000 in
set_option maxRecDepth 100000 in
theorem through_calls (A0 : Option Addr) (c0 n0 : Nat) (merged inn : Bool) (mem : ByteArray) (param : Int) (oa ob oc : Int) (os : ByteArray) (Ao : Option Addr) (co no : Nat) (a b c : Int) (s : ByteArray) (Av : Option Addr) (cv nv : Nat) (label : Int) (o : Option Val) (w : World)
    (he : ∀ (w1 w' : World), Below w.heap.size w w1 → Below w1.heap.size w1 w' → w.heap.size < w1.heap.size → ∀ bv bo bi bt bm bp bg : Nat, w.heap.size ≤ bv → bo ≠ bv → w'.heap[bv]? = some (.cells #[.int .i64 a, .int .i64 b, .int .u64 c, .string s, .slice Av nv cv] 27 (0, 0)) →
      Caps A0 c0 n0 merged inn mem param oa ob oc os Ao co no bo bi bt bm bp bg w' →
      Calls Try.prog 54 #[.pointer (some ⟨bv, 0, none⟩), .pointer (some ⟨bo, 0, none⟩), .pointer (some ⟨bi, 0, none⟩), .pointer (some ⟨bt, 0, none⟩), .pointer (some ⟨bm, 0, none⟩), .pointer (some ⟨bp, 0, none⟩), .pointer (some ⟨bg, 0, none⟩)] w' (EntZ w.heap.size (fun k => k = bv) label w' o)) :
    Calls Try.prog 37 #[.slice A0 n0 c0, .agg #[.int .i64 oa, .int .i64 ob, .int .u64 oc, .string os, .slice Ao no co], .string mem, .int .i64 param, .agg #[.int .i64 a, .int .i64 b, .int .u64 c, .string s, .slice Av nv cv], .bool merged, .bool inn] w (Thr label w o) := by
  have hu27 := Try.underlying27
  obtain ⟨W1, hW1⟩ : ∃ W1, W1 = ((((((((w.alloc (.cells #[.slice A0 n0 c0] 22)).alloc (.cells #[.int .i64 oa, .int .i64 ob, .int .u64 oc, .string os, .slice Ao no co] 27)).alloc (.cells #[.string mem] 9)).alloc (.cells #[.int .i64 param] 3)).alloc (.cells #[.int .i64 a, .int .i64 b, .int .u64 c, .string s, .slice Av nv cv] 27)).alloc (.cells #[.bool merged] 4)).alloc (.cells #[.bool inn] 4)).alloc (.cells #[.int .i64 0, .int .i64 0, .int .u64 0, .string ⟨#[]⟩, .slice none 0 0] 27)) := ⟨_, rfl⟩
  have hb1 : Below w.heap.size w W1 := by rw [hW1]; exact ((((((((Below.refl _ _).alloc (Nat.le_refl _) _).alloc (by simp; try omega) _).alloc (by simp; try omega) _).alloc (by simp; try omega) _).alloc (by simp; try omega) _).alloc (by simp; try omega) _).alloc (by simp; try omega) _).alloc (by simp; try omega) _
  have r0 : W1.heap[w.heap.size]? = some (.cells #[.slice A0 n0 c0] 22 (0, 0)) := by rw [hW1]; exact at_alloc (at_alloc (at_alloc (at_alloc (at_alloc (at_alloc (at_alloc (at_new _ _ rfl) _) _) _) _) _) _) _
  have r1 : W1.heap[w.heap.size + 1]? = some (.cells #[.int .i64 oa, .int .i64 ob, .int .u64 oc, .string os, .slice Ao no co] 27 (0, 0)) := by rw [hW1]; exact at_alloc (at_alloc (at_alloc (at_alloc (at_alloc (at_alloc (at_new _ _ (by simp)) _) _) _) _) _) _
  have r2 : W1.heap[w.heap.size + 1 + 1]? = some (.cells #[.string mem] 9 (0, 0)) := by rw [hW1]; exact at_alloc (at_alloc (at_alloc (at_alloc (at_alloc (at_new _ _ (by simp)) _) _) _) _) _
  have r3 : W1.heap[w.heap.size + 1 + 1 + 1]? = some (.cells #[.int .i64 param] 3 (0, 0)) := by rw [hW1]; exact at_alloc (at_alloc (at_alloc (at_alloc (at_new _ _ (by simp)) _) _) _) _
  have r4 : W1.heap[w.heap.size + 1 + 1 + 1 + 1]? = some (.cells #[.int .i64 a, .int .i64 b, .int .u64 c, .string s, .slice Av nv cv] 27 (0, 0)) := by rw [hW1]; exact at_alloc (at_alloc (at_alloc (at_new _ _ (by simp)) _) _) _
  have r5 : W1.heap[w.heap.size + 1 + 1 + 1 + 1 + 1]? = some (.cells #[.bool merged] 4 (0, 0)) := by rw [hW1]; exact at_alloc (at_alloc (at_new _ _ (by simp)) _) _
  have r6 : W1.heap[w.heap.size + 1 + 1 + 1 + 1 + 1 + 1]? = some (.cells #[.bool inn] 4 (0, 0)) := by rw [hW1]; exact at_alloc (at_new _ _ (by simp)) _
  have r7 : W1.heap[w.heap.size + 1 + 1 + 1 + 1 + 1 + 1 + 1]? = some (.cells #[.int .i64 0, .int .i64 0, .int .u64 0, .string ⟨#[]⟩, .slice none 0 0] 27 (0, 0)) := by rw [hW1]; exact at_new _ _ (by simp)
  have hs1 : W1.heap.size = w.heap.size + 8 := by rw [hW1]; simp
  have HC := Aside0.mk (caught_callsZ w.heap.size (fun k => k = w.heap.size + 1 + 1 + 1 + 1) 54 #[.pointer (some ⟨w.heap.size + 1 + 1 + 1 + 1, 0, none⟩), .pointer (some ⟨w.heap.size + 1, 0, none⟩), .pointer (some ⟨w.heap.size + 1 + 1 + 1 + 1 + 1 + 1, 0, none⟩), .pointer (some ⟨w.heap.size, 0, none⟩), .pointer (some ⟨w.heap.size + 1 + 1, 0, none⟩), .pointer (some ⟨w.heap.size + 1 + 1 + 1, 0, none⟩), .pointer (some ⟨w.heap.size + 1 + 1 + 1 + 1 + 1, 0, none⟩)] label o W1 (.inr rfl) hb1.size (fun k e => by omega) (fun w' hb => he W1 w' hb1 hb (by omega) _ _ _ _ _ _ _ (by omega) (by omega) ((hb.block _ (lt_of_at r4)).trans r4)
    ⟨(hb.block _ (lt_of_at r1)).trans r1, (hb.block _ (lt_of_at r6)).trans r6, (hb.block _ (lt_of_at r0)).trans r0, (hb.block _ (lt_of_at r2)).trans r2, (hb.block _ (lt_of_at r3)).trans r3, (hb.block _ (lt_of_at r5)).trans r5⟩))
  have HB := Aside0.mk hb1
  have HK := Aside0.mk r7
  have HW := Aside0.mk hW1
  have hmf : ∀ (fn : Fn) (first cap : Array Value) (w : World), (Instr.makeFunc fn first cap).run Try.prog w = .ok (.func fn first cap) w := fun _ _ _ _ => rfl
  clear he hb1 r0 r1 r2 r3 r4 r5 r6 r7 hW1 hs1
  go_enter Try.func37, Try.ntmps37
  go_wp2_with fail
  rw [← HW.out]
  refine HC.out.mono ?_
  intro e w2 hE
  cases o with
  | none =>
    obtain ⟨rfl, hb13⟩ := hE
    have q2 := hb13.at HK.out (fun e => by omega)
    obtain ⟨p0, p1, p2, p3, p4⟩ := cells5 q2
    have f0 := free_at q2 0
    have f1 := free_at q2 1
    have f2 := free_at q2 2
    have f3 := free_at q2 3
    have f4 := free_at q2 4
    have Q13 := Aside0.mk q2
    have HB13 := Aside0.mk (HB.out.trans (hb13.below HB.out.size (fun k e => by omega)))
    clear q2 hb13 HC
    go_wp2_with fail
    have d2 := blk_put (blk_put (blk_put (blk_put (blk_put Q13.out 0 (.int .i64 0) rfl) 1 (.int .i64 0) rfl) 2 (.int .u64 0) rfl) 3 (.string ⟨#[]⟩) rfl) 4 (.slice none 0 0) rfl
    refine bodyPost_ret (results_ct rfl _ _ (w.heap.size + 1 + 1 + 1 + 1 + 1 + 1 + 1) 27 #[.int .i64 0, .int .i64 0, .int .u64 0, .string ⟨#[]⟩, .slice none 0 0] (0, 0) _ rfl d2 Try.underlying27 rfl (by kernel_rfl)) rfl ?_
    exact ⟨rfl, by repeat (first | exact HB13.out | refine below_set ?_ (show w.heap.size ≤ w.heap.size + 1 + 1 + 1 + 1 + 1 + 1 + 1 by omega))⟩
  | some o =>
    obtain ⟨r1, r2, r3, r4, l5⟩ := o
    obtain ⟨v13, rfl, hR13, hb13⟩ := hE
    obtain ⟨A13, c13, rfl⟩ := Kd.R_slice hR13
    have q2 := hb13.at HK.out (fun e => by omega)
    obtain ⟨p0, p1, p2, p3, p4⟩ := cells5 q2
    have f0 := free_at q2 0
    have f1 := free_at q2 1
    have f2 := free_at q2 2
    have f3 := free_at q2 3
    have f4 := free_at q2 4
    have Q13 := Aside0.mk q2
    have HB13 := Aside0.mk (HB.out.trans (hb13.below HB.out.size (fun k e => by omega)))
    have HR13 := Aside0.mk hR13
    clear q2 hR13 hb13 HC
    go_wp2_with fail
    have d2 := blk_put (blk_put (blk_put (blk_put (blk_put Q13.out 0 (.int .i64 r1) rfl) 1 (.int .i64 r2) rfl) 2 (.int .u64 r3) rfl) 3 (.string r4) rfl) 4 (.slice A13 l5.length c13) rfl
    refine bodyPost_ret (results_ct rfl _ _ (w.heap.size + 1 + 1 + 1 + 1 + 1 + 1 + 1) 27 #[.int .i64 r1, .int .i64 r2, .int .u64 r3, .string r4, .slice A13 l5.length c13] (0, 0) _ rfl d2 Try.underlying27 rfl (by kernel_rfl)) rfl ?_
    have HR9 := Kd.R_set (Kd.R_set (Kd.R_set (Kd.R_set (Kd.R_set HR13.out Q13.out (by decide) 0 (.int .i64 r1)) (blk_put Q13.out 0 (.int .i64 r1) rfl) (by decide) 1 (.int .i64 r2)) (blk_put (blk_put Q13.out 0 (.int .i64 r1) rfl) 1 (.int .i64 r2) rfl) (by decide) 2 (.int .u64 r3)) (blk_put (blk_put (blk_put Q13.out 0 (.int .i64 r1) rfl) 1 (.int .i64 r2) rfl) 2 (.int .u64 r3) rfl) (by decide) 3 (.string r4)) (blk_put (blk_put (blk_put (blk_put Q13.out 0 (.int .i64 r1) rfl) 1 (.int .i64 r2) rfl) 2 (.int .u64 r3) rfl) 3 (.string r4) rfl) (by decide) 4 (.slice A13 l5.length c13)
    exact ⟨_, rfl, HR9, by repeat (first | exact HB13.out | refine below_set ?_ (show w.heap.size ≤ w.heap.size + 1 + 1 + 1 + 1 + 1 + 1 + 1 by omega))⟩
end Go.Proofs.YtinkbljjpafadaaTab
end

section
namespace Go.Proofs.Ytinkbljjpafadaa.PAll
open Go.RowKit Go.Proofs.YtinkbljjpafadaaW.PrintWords Go.Proofs.YtinkbljjpafadaaW.PrintLast Go.Proofs.YtinkbljjpafadaaW.PrintMore
attribute [local go_sem] max2_int min2_int max_two min_two max_three min_three max_four min_four   -- for this text's walks alone
set_option linter.unusedVariables false
set_option linter.unusedSimpArgs false
open Go.Proofs.YtinkbljjpafadaaTab in
def table_Fields.f (l0 : List (S64)) (a1 : ByteArray) : Option (List (S58)) := if l0.length < 4398046511104 ∧ (fieldsL l0 a1).length < 4398046511104 then some (fieldsL l0 a1) else none
open Go.Proofs.YtinkbljjpafadaaTab in
theorem table_Fields.calls (A0 : Option Addr) (c0 : Nat) (l0 : List (S64)) (a1 : ByteArray) (r : List (S58)) (w : World) (hr0 : Kd.C k64 w A0 l0.length l0) (hc0 : l0.length ≤ c0) (h : table_Fields.f l0 a1 = some r) :
  Calls Try.prog 42 #[.slice A0 l0.length c0, .string a1] w fun e w' => ∃ v0_ : Value, e = .returned (v0_) ∧ Kd.R k58 58 w' w.heap.size (fun _ => True) v0_ r ∧ Below w.heap.size w w' := by
 unfold table_Fields.f at h
 by_cases hl : l0.length < 4398046511104 ∧ (fieldsL l0 a1).length < 4398046511104
 ·
  rw [if_pos hl] at h
  obtain rfl := Option.some.inj h
  exact Fields_calls A0 c0 l0 a1 w hr0 hl.1 hl.2
 ·
  rw [if_neg hl] at h; cases h
def table_Methods.small (l0 : List (S64)) : Bool := decide (l0.length < 4398046511104) && l0.all fun x => decide (x.f3.length < 4398046511104) && x.f3.all fun m => decide (m.f1.length < 4398046511104)
open Go.Proofs.YtinkbljjpafadaaTab in
theorem table_Methods.small_is {l0 : List (S64)} (h : table_Methods.small l0 = true) : Small l0 := by
 unfold table_Methods.small at h
 simp only [Bool.and_eq_true, decide_eq_true_eq, List.all_eq_true] at h
 have hm : ∀ p, p < l0.length → clsAt l0 p ∈ l0 := fun p hp => by
  unfold clsAt rd_T64
  rw [Int.toNat_natCast, List.getD_eq_getElem?_getD, List.getElem?_eq_getElem hp]
  exact List.getElem_mem hp
 exact ⟨h.1, fun p hp => (h.2 _ (hm p hp)).1, fun p hp m hm' => (h.2 _ (hm p hp)).2 m hm'⟩
open Go.Proofs.YtinkbljjpafadaaTab in
def table_Methods.all (l0 : List (S64)) (a1 : ByteArray) : Nat := ((lineL l0 a1).reverse.flatMap fun p => (clsAt l0 p).f3).length
open Go.Proofs.YtinkbljjpafadaaTab in
def table_Methods.f (l0 : List (S64)) (a1 : ByteArray) : Option (List (S61)) := if table_Methods.small l0 = true ∧ table_Methods.all l0 a1 < 2199023255552 then some (methsL l0 a1) else none
open Go.Proofs.YtinkbljjpafadaaTab in
theorem table_Methods.calls (A0 : Option Addr) (c0 : Nat) (l0 : List (S64)) (a1 : ByteArray) (r : List (S61)) (w : World) (hr0 : Kd.C k64 w A0 l0.length l0) (hc0 : l0.length ≤ c0) (h : table_Methods.f l0 a1 = some r) :
  Calls Try.prog 43 #[.slice A0 l0.length c0, .string a1] w fun e w' => ∃ v0_ : Value, e = .returned (v0_) ∧ Kd.S k61 61 w' w.heap.size (fun _ => True) v0_ r ∧ Below w.heap.size w w' := by
 unfold table_Methods.f at h
 by_cases hl : table_Methods.small l0 = true ∧ table_Methods.all l0 a1 < 2199023255552
 ·
  rw [if_pos hl] at h
  obtain rfl := Option.some.inj h
  exact Methods_calls A0 c0 l0 a1 w hr0 (table_Methods.small_is hl.1) hl.2
 ·
  rw [if_neg hl] at h; cases h
end Go.Proofs.Ytinkbljjpafadaa.PAll
end

section
namespace Go.Proofs.Ytinkbljjpafadaa.PAll
open Go.RowKit Go.Proofs.YtinkbljjpafadaaW.PrintWords Go.Proofs.YtinkbljjpafadaaW.PrintLast Go.Proofs.YtinkbljjpafadaaW.PrintMore
attribute [local go_sem] max2_int min2_int max_two min_two max_three min_three max_four min_four   -- for this text's walks alone
set_option linter.unusedVariables false
set_option linter.unusedSimpArgs false
mutual
def table_Members.l0 : Nat → List (S64) → ByteArray → List (S33) → List (S58) → Int → Int → Option ((List (S33)))
 | 0, _, _, _, _, _, _ => none
 | k + 1, x0, x1, x4, x11, x12, x13 => if x13 < x12 then (if 0 ≤ x13 then (if x13 < (x11.length : Int) then (if x4.length < 5864062014805 then (table_Members.l0 k x0 x1 (x4 ++ [(⟨(rd_T58 x11 x13).f0, (-1)⟩ : S33)]) x11 x12 (wrap64 (x13 + 1))) else (none)) else (none)) else (none)) else ((table_Methods.f x0 x1).bind fun t126 => (table_Members.l1 k x4 t126 (t126.length : Int) 0))
def table_Members.l1 : Nat → List (S33) → List (S61) → Int → Int → Option ((List (S33)))
 | 0, _, _, _, _ => none
 | k + 1, x4, x26, x27, x28 => if x28 < x27 then (if 0 ≤ x28 then (if x28 < (x26.length : Int) then (if x4.length < 5864062014805 then (table_Members.l1 k (x4 ++ [(⟨(rd_T61 x26 x28).f0, (((rd_T61 x26 x28).f1).length : Int)⟩ : S33)]) x26 x27 (wrap64 (x28 + 1))) else (none)) else (none)) else (none)) else (some x4)
end
def table_Members.f (k : Nat) (l0 : List (S64)) (a1 : ByteArray) : Option ((List (S33))) := (table_Fields.f l0 a1).bind fun t118 => (table_Members.l0 k l0 a1 ([] : List (S33)) t118 (t118.length : Int) 0)
theorem table_Members.mono_l : ∀ k, (∀ y0 y1 y2 y3 y4 y5, LeO (table_Members.l0 k y0 y1 y2 y3 y4 y5) (table_Members.l0 (k + 1) y0 y1 y2 y3 y4 y5)) ∧ (∀ y0 y1 y2 y3, LeO (table_Members.l1 k y0 y1 y2 y3) (table_Members.l1 (k + 1) y0 y1 y2 y3))
 | 0 => ⟨fun _ _ _ _ _ _ r h => by simp [table_Members.l0] at h, fun _ _ _ _ r h => by simp [table_Members.l1] at h⟩
 | k + 1 => by
  obtain ⟨ih0, ih1⟩ := table_Members.mono_l k
  refine ⟨?_, ?_⟩
  ·
   intro y0 y1 y2 y3 y4 y5
   unfold table_Members.l0
   repeat' first
   | (with_reducible exact ih0 _ _ _ _ _ _)
   | (with_reducible exact ih1 _ _ _ _)
   | (with_reducible exact LeO.refl _)
   | (with_reducible exact LeO.none _)
   | (with_reducible refine LeO.ite ?_ ?_)
   | (with_reducible refine LeO.bind ?_ (fun _ => ?_))
   | exact ih0 _ _ _ _ _ _
   | exact ih1 _ _ _ _
   | exact LeO.none _
   | refine LeO.ite ?_ ?_
   | refine LeO.bind ?_ (fun _ => ?_)
  ·
   intro y0 y1 y2 y3
   unfold table_Members.l1
   repeat' first
   | (with_reducible exact ih0 _ _ _ _ _ _)
   | (with_reducible exact ih1 _ _ _ _)
   | (with_reducible exact LeO.refl _)
   | (with_reducible exact LeO.none _)
   | (with_reducible refine LeO.ite ?_ ?_)
   | (with_reducible refine LeO.bind ?_ (fun _ => ?_))
   | exact ih0 _ _ _ _ _ _
   | exact ih1 _ _ _ _
   | exact LeO.none _
   | refine LeO.ite ?_ ?_
   | refine LeO.bind ?_ (fun _ => ?_)
theorem table_Members.mono : ∀ a0 a1 k, LeO (table_Members.f k a0 a1) (table_Members.f (k + 1) a0 a1) := by
 intro a0 a1 k
 obtain ⟨ih0, ih1⟩ := table_Members.mono_l k
 unfold table_Members.f
 repeat' first
   | (with_reducible exact ih0 _ _ _ _ _ _)
   | (with_reducible exact ih1 _ _ _ _)
   | (with_reducible exact LeO.refl _)
   | (with_reducible exact LeO.none _)
   | (with_reducible refine LeO.ite ?_ ?_)
   | (with_reducible refine LeO.bind ?_ (fun _ => ?_))
   | exact ih0 _ _ _ _ _ _
   | exact ih1 _ _ _ _
   | exact LeO.none _
   | refine LeO.ite ?_ ?_
   | refine LeO.bind ?_ (fun _ => ?_)
set_option maxHeartbeats 8000000 in
set_option maxRecDepth 100000 in
theorem table_Members.calls (k : Nat) (A0 : Option Addr) (c0 : Nat) (l0 : List (S64)) (a1 : ByteArray) (r : List (S33)) (w : World) (hr0 : Kd.C k64 w A0 l0.length l0) (hc0 : l0.length ≤ c0) (h : table_Members.f k l0 a1 = some r) :
  Calls Try.prog 28 #[.slice A0 l0.length c0, .string a1] w fun e w' => ∃ v0_ : Value, e = .returned (v0_) ∧ Kd.R k33 33 w' w.heap.size (fun _ => True) v0_ r ∧ Below w.heap.size w w' := by
 have hu58 := Try.underlying58
 have hu33 := Try.underlying33
 have hu61 := Try.underlying61
 have HR0 := Aside0.mk hr0
 have HC0 := Aside0.mk hc0
 clear hr0 hc0
 have HB := Aside0.mk (Below.refl w.heap.size w)
 have H : ((table_Fields.f l0 a1).bind fun t118 => (table_Members.l0 k l0 a1 ([] : List (S33)) t118 (t118.length : Int) 0)) = some r := h
 clear h
 replace H := Option.bind_eq_some_iff.mp H
 obtain ⟨t118, A30, H⟩ := H
 replace H : (table_Members.l0 k l0 a1 ([] : List (S33)) t118 (t118.length : Int) 0) = some r := H
 have A3 := Aside0.mk A30
 clear A30
 have H' := Aside0.mk H
 clear H
 go_enter Try.func28, Try.ntmps28
 go_wp2_with (first | ((with_reducible refine gate_callee (f := 42) rfl ?_); refine goesL_ (some 11) rfl rfl Try.func42 (by kernel_rfl) rfl #[.slice A0 l0.length c0, .string a1] rfl (by (try simp only [List.map_toArray, List.map_cons, List.map_nil]); first | done | rfl | (simp only [List.length_drop, List.length_take]; rfl)) ?_; (with_reducible refine (table_Fields.calls _ _ l0 a1 t118 _ ?side1 ?side2 A3.out).mono ?_); (case side1 => repeat (first | exact HR0.out | (with_reducible refine Kd.C_alloc ?_ _) | (with_reducible refine Kd.C_drewN ?_ _) | (with_reducible refine Kd.C_drew ?_))); (case side2 => exact HC0.out); rintro e w4 ⟨v119, rfl, ho0, hb⟩; refine ⟨_, rfl, ?_⟩; have n0_ := Aside0.mk (Kd.R_lower ho0 (below_size (by repeat (first | (with_reducible first | exact HB.out | apply below_alloc | apply pw_below_drewN | apply below_drew1) | exact HB.out)))); have n1_ := Aside0.mk (below_step (by repeat (first | (with_reducible first | exact HB.out | apply below_alloc | apply pw_below_drewN | apply below_drew1) | exact HB.out)) hb); clear HB; have HO120 := n0_; have HB := n1_; clear n0_ n1_; (try clear hb); (try clear hb2); (try clear hk); (try clear hi); (try clear ho0); obtain ⟨Ao5, co5, eo5⟩ := Kd.R_slice HO120.out; subst eo5))
 go_loopg [4, 13] k (fun kq v4 v13 w' => ∃ (x4_1 : List (S33)) (x13_1 : Int), v13 = .int .i64 x13_1 ∧ Aside0 (table_Members.l0 kq l0 a1 x4_1 t118 (t118.length : Int) x13_1 = some r) ∧ Aside0 (kq ≤ k) ∧ Aside0 (Kd.R k33 33 w' w.heap.size (fun _ => True) v4 x4_1) ∧ Aside0 (Kd.R k58 58 w' w.heap.size (fun _ => True) (.slice Ao5 t118.length co5) t118) ∧ Aside0 (Below w.heap.size w w'))
 case atStart => exact ⟨(([] : List (S33))), (0), (by first | rfl | (simp; done) | (simp [*]; done)), H', ⟨Nat.le_refl _⟩, ⟨by first | exact Kd.R_nil _ _ _ _ _ | exact Kd.N_nil _ _ _ _ _ | exact Kd.V_nil _ _ _ _ _ | exact Kd.Q_nil _ _ _ _ _ | exact Kd.S_nil _ _ _ _ _⟩, ⟨by (with_reducible repeat (first | apply Kd.R_alloc | apply Kd.R_drewN | apply Kd.R_drew)); exact HO120.out⟩, ⟨by repeat (first | (with_reducible first | exact HB.out | apply below_alloc | apply pw_below_drewN | apply below_drew1) | exact HB.out)⟩⟩
 case round =>
  clear H'
  try clear c2
  try clear p2
  try clear c4
  obtain ⟨x4_1, x13_1, rfl, HA, HK1, HO_4, HO_11, HB⟩ := hrel
  cases gk with
  | zero => exact absurd HA.out (by simp [table_Members.l0])
  | succ k1 =>
   have H := HA.out
   clear HA
   simp only [table_Members.l0] at H
   by_cases c6 : x13_1 < (t118.length : Int)
   ·
    rw [if_pos c6] at H
    have c6b0 : decide (x13_1 < (t118.length : Int)) = true := decide_eq_true c6
    clear c6
    by_cases c7 : 0 ≤ x13_1
    ·
     rw [if_pos c7] at H
     have c7b0 : decide (0 ≤ x13_1) = true := decide_eq_true c7
     clear c7
     by_cases c8 : x13_1 < (t118.length : Int)
     ·
      rw [if_pos c8] at H
      have c8b0 : decide (x13_1 < (t118.length : Int)) = true := decide_eq_true c8
      clear c8
      by_cases c9 : x4_1.length < 5864062014805
      ·
       rw [if_pos c9] at H
       have LMc9 := Aside0.mk c9
       clear c9
       obtain ⟨y123, hy123⟩ : ∃ y_ : List (S33), y_ = (x4_1 ++ [(⟨(rd_T58 t118 x13_1).f0, (-1)⟩ : S33)]) := ⟨_, rfl⟩
       replace H : (table_Members.l0 k1 l0 a1 y123 t118 (t118.length : Int) (wrap64 (x13_1 + 1))) = some r := by first | (rw [hy123]; with_reducible exact H) | (have H2_ := (Option.bind_some _ _).symm.trans H; rw [hy123]; with_reducible exact H2_) | (have H2_ := (Option.bind_some _ _).symm.trans H; with_reducible exact H2_) | with_reducible exact H | (rw [hy123]; exact H) | exact H
       have Ny123 := Aside0.mk hy123
       clear hy123
       have H' := Aside0.mk H
       clear H
       have p121 : 0 ≤ (x13_1 : Int) := of_decide_eq_true (by first | (with_reducible assumption) | assumption)
       have q121 : x13_1 < (t118.length : Int) := of_decide_eq_true (by first | (with_reducible assumption) | assumption)
       obtain ⟨ad121, e121, hx121_0, hx121_1⟩ := at_T58 (Kd.R_reads' HO_11.out).2.2 x13_1 p121 q121
       cases e121
       replace p121 := eq_true p121
       replace q121 := eq_true q121
       go_wp2_with (first | ((with_reducible refine gate_dst (N := 6) rfl ?_); refine box_event ?hg (N := 6) ?hd (cs := #[.string (⟨#[]⟩ : ByteArray), .string (⟨#[]⟩ : ByteArray)]) (t := 58) ?hr ?_; (case hd => rfl); (case hg => rfl); (case hr => first | (go_simp; done) | (go_simp; rfl)); intro gb122 hg w10 hbox hb; have n0_ := Aside0.mk (Kd.R_below (by (with_reducible repeat (first | apply Kd.R_alloc | apply Kd.R_drewN | apply Kd.R_drew)); exact HO_4.out) hb); have n1_ := Aside0.mk (Kd.R_below (Kd.R_elderB (by (with_reducible repeat (first | apply Kd.R_alloc | apply Kd.R_drewN | apply Kd.R_drew)); exact HO_11.out) gb122 (Nat.le_of_eq hg.symm)) hb); have n2_ := Aside0.mk (below_step (by repeat (first | (with_reducible first | exact HB.out | apply below_alloc | apply pw_below_drewN | apply below_drew1) | exact HB.out)) hb); have n3_ := Aside0.mk (hbox); have n4_ := Aside0.mk ((by rw [hg]; exact (below_size (by repeat (first | (with_reducible first | exact HB.out | apply below_alloc | apply pw_below_drewN | apply below_drew1) | exact HB.out))) : w.heap.size ≤ gb122)); have n5_ := Aside0.mk ((by rw [hg]; exact (below_size (by repeat (first | (with_reducible first | exact HB.out | apply below_alloc | apply pw_below_drewN | apply below_drew1) | exact HB.out))) : w.heap.size ≤ gb122)); clear HO_4; clear HO_11; clear HB; have HO_4 := n0_; have HO_11 := n1_; have HB := n2_; have BK122 := n3_; have GW122 := n4_; have GE122 := n5_; clear n0_ n1_ n2_ n3_ n4_ n5_; clear hb hbox hg; have hcz11_0 : w10.cell? ⟨gb122, 0, none⟩ = some (.string (⟨#[]⟩ : ByteArray)) := (blk_cell BK122.out 0).trans rfl; have hcz11_1 : w10.cell? ⟨gb122, 1, none⟩ = some (.string (⟨#[]⟩ : ByteArray)) := (blk_cell BK122.out 1).trans rfl; have hfz11_0 := blk_frozen BK122.out 0; have hfz11_1 := blk_frozen BK122.out 1) | ((with_reducible refine gate_builtin (b := .append) (xs := #[.tmp 17, .tmp 21]) rfl ?_); at_builtin; refine Kd.R_append k33 (w0 := w) w.heap.size rfl (.tmp 17) (.tmp 21) 29 33 (.agg #[(.string ⟨#[]⟩), (.int .i64 0)]) 24 rfl Try.underlying29 info33 rfl (by decide) (by omega) u4 x4_1 (⟨(rd_T58 t118 x13_1).f0, (-1)⟩ : S33) [.string ((rd_T58 t118 x13_1).f0), .int .i64 (-1)] (fun _ => True) (fun _ => False) rfl (by first | (go_simp; done) | (go_simp; rfl)) ?aP (fun _ hk => hk.elim) ?aF ?aO ?aB ?aS ?aL ?_; (case aP => exact k33_mkM _ _ _ (⟨(rd_T58 t118 x13_1).f0, (-1)⟩ : S33)); (case aB => exact (by repeat (first | (with_reducible first | exact HB.out | apply below_alloc | apply pw_below_drewN | apply below_drew1 | refine below_set ?_ GE122.out) | exact HB.out))); (case aF => exact (fun _ _ => trivial)); (case aO => exact (by (with_reducible repeat (first | apply Kd.R_alloc | apply Kd.R_drewN | apply Kd.R_drew)); exact Kd.R_mono (Kd.R_far (p := ⟨gb122, 1, none⟩) (Kd.R_far (p := ⟨gb122, 0, none⟩) (Kd.R_types HO_4.out BK122.out (by decide)) (fun _ hk => hk.2) (.string ((rd_T58 t118 x13_1).f0))) (fun _ hk => hk.2) (.string ((rd_T58 t118 x13_1).f1))) (fun _ hk => trivial))); (case aS => exact (below_size (by repeat (first | (with_reducible first | exact HB.out | apply below_alloc | apply pw_below_drewN | apply below_drew1 | refine below_set ?_ GE122.out) | exact HB.out)))); (case aL => have := LMc9.out; omega); intro v124 w12 ho hb hg hat; rw [← Ny123.out] at ho; have n0_ := Aside0.mk (Kd.R_over' (by (with_reducible repeat (first | apply Kd.R_alloc | apply Kd.R_drewN | apply Kd.R_drew)); exact (Kd.R_mono (Kd.R_far (p := ⟨gb122, 1, none⟩) (Kd.R_far (p := ⟨gb122, 0, none⟩) (Kd.R_mono HO_11.out (fun k_ hk => (⟨hk, hk.2⟩ : _ ∧ k_ ≠ gb122))) (fun _ hk => hk.2) (.string ((rd_T58 t118 x13_1).f0))) (fun _ hk => hk.2) (.string ((rd_T58 t118 x13_1).f1))) (fun _ h_ => h_.1))) (Kd.R_typed (by (with_reducible repeat (first | apply Kd.R_alloc | apply Kd.R_drewN | apply Kd.R_drew)); exact (Kd.R_mono (Kd.R_far (p := ⟨gb122, 1, none⟩) (Kd.R_far (p := ⟨gb122, 0, none⟩) (Kd.R_types HO_4.out BK122.out (by decide)) (fun _ hk => hk.2) (.string ((rd_T58 t118 x13_1).f0))) (fun _ hk => hk.2) (.string ((rd_T58 t118 x13_1).f1))) (fun _ h_ => h_.1)))) (by decide) hg); have n1_ := Aside0.mk (blk_grown (g := gb122) (o := .cells #[.string ((rd_T58 t118 x13_1).f0), .string ((rd_T58 t118 x13_1).f1)] 58 (0, 0)) (by (with_reducible repeat (first | refine blk_drewN ?_ _ | refine blk_drew ?_ | refine blk_alloc ?_ _)); refine blk_put (cs := #[.string ((rd_T58 t118 x13_1).f0), .string (⟨#[]⟩ : ByteArray)]) ?_ 1 _ rfl; (with_reducible repeat (first | refine blk_drewN ?_ _ | refine blk_drew ?_ | refine blk_alloc ?_ _)); refine blk_put (cs := #[.string (⟨#[]⟩ : ByteArray), .string (⟨#[]⟩ : ByteArray)]) ?_ 0 _ rfl; (with_reducible repeat (first | refine blk_drewN ?_ _ | refine blk_drew ?_ | refine blk_alloc ?_ _)); exact BK122.out) hg (Kd.R_ne HO_4.out BK122.out (by decide))); have n2_ := Aside0.mk (hb); have n3_ := Aside0.mk (ho); clear HO_11; clear BK122; clear HB; clear HO_4; have HO_11 := n0_; have BK122 := n1_; have HB := n2_; have HO125 := n3_; clear n0_ n1_ n2_ n3_; clear ho hb hg hat))
       go_roundg k1
       case measure => have := HK1.out; omega
       case rel => exact ⟨(y123), (wrap64 (x13_1 + 1)), (by first | rfl | (simp; done) | (simp [*]; done)), H', ⟨by have := HK1.out; omega⟩, ⟨by (with_reducible repeat (first | apply Kd.R_alloc | apply Kd.R_drewN | apply Kd.R_drew)); exact HO125.out⟩, ⟨by (with_reducible repeat (first | apply Kd.R_alloc | apply Kd.R_drewN | apply Kd.R_drew)); exact Kd.R_mono HO_11.out (fun _ hk => trivial)⟩, ⟨by repeat (first | (with_reducible first | exact HB.out | apply below_alloc | apply pw_below_drewN | apply below_drew1 | refine below_set ?_ GE122.out) | exact HB.out)⟩⟩
      ·
       rw [if_neg c9] at H
       exact absurd H (by simp)
     ·
      rw [if_neg c8] at H
      exact absurd H (by simp)
    ·
     rw [if_neg c7] at H
     exact absurd H (by simp)
   ·
    rw [if_neg c6] at H
    have c6b0 : decide (x13_1 < (t118.length : Int)) = false := decide_eq_false c6
    clear c6
    replace H := Option.bind_eq_some_iff.mp H
    obtain ⟨t126, A130, H⟩ := H
    replace H : (table_Members.l1 k1 x4_1 t126 (t126.length : Int) 0) = some r := H
    have A13 := Aside0.mk A130
    clear A130
    have H' := Aside0.mk H
    clear H
    go_wp2_with (first | ((with_reducible refine gate_callee (f := 43) rfl ?_); refine goesL_ (some 26) rfl rfl Try.func43 (by kernel_rfl) rfl #[.slice A0 l0.length c0, .string a1] rfl (by (try simp only [List.map_toArray, List.map_cons, List.map_nil]); first | done | rfl | (simp only [List.length_drop, List.length_take]; rfl)) ?_; (with_reducible refine (table_Methods.calls _ _ l0 a1 t126 _ ?side1 ?side2 A13.out).mono ?_); (case side1 => repeat (first | exact (Kd.C_below HR0.out HB.out) | (with_reducible refine Kd.C_alloc ?_ _) | (with_reducible refine Kd.C_drewN ?_ _) | (with_reducible refine Kd.C_drew ?_))); (case side2 => exact HC0.out); rintro e w14 ⟨v127, rfl, ho0, hb⟩; refine ⟨_, rfl, ?_⟩; have n0_ := Aside0.mk (Kd.R_below (by (with_reducible repeat (first | apply Kd.R_alloc | apply Kd.R_drewN | apply Kd.R_drew)); exact HO_4.out) hb); have n1_ := Aside0.mk (Kd.R_below (by (with_reducible repeat (first | apply Kd.R_alloc | apply Kd.R_drewN | apply Kd.R_drew)); exact HO_11.out) hb); have n2_ := Aside0.mk (Kd.S_lower (Kd.S_new' ho0 (Kd.R_lt (by (with_reducible repeat (first | apply Kd.R_alloc | apply Kd.R_drewN | apply Kd.R_drew)); exact HO_11.out))) (below_size (by repeat (first | (with_reducible first | exact HB.out | apply below_alloc | apply pw_below_drewN | apply below_drew1) | exact HB.out)))); have n3_ := Aside0.mk (below_step (by repeat (first | (with_reducible first | exact HB.out | apply below_alloc | apply pw_below_drewN | apply below_drew1) | exact HB.out)) hb); clear HO_4; clear HO_11; clear HB; have HO_4 := n0_; have HO_11 := n1_; have HO128 := n2_; have HB := n3_; clear n0_ n1_ n2_ n3_; (try clear hb); (try clear hb2); (try clear hk); (try clear hi); (try clear ho0); obtain ⟨Ao15, co15, eo15⟩ := Kd.S_slice HO128.out; subst eo15))
    go_loopg [4, 28] k1 (fun kq v4 v28 w' => ∃ (x4_2 : List (S33)) (x28_2 : Int), v28 = .int .i64 x28_2 ∧ Aside0 (table_Members.l1 kq x4_2 t126 (t126.length : Int) x28_2 = some r) ∧ Aside0 (kq ≤ k1) ∧ Aside0 (Kd.R k33 33 w' w.heap.size (fun _ => True) v4 x4_2) ∧ Aside0 (Kd.S k61 61 w' w.heap.size (fun _ => True) (.slice Ao15 t126.length co15) t126) ∧ Aside0 (Below w.heap.size w w'))
    case atStart => exact ⟨(x4_1), (0), (by first | rfl | (simp; done) | (simp [*]; done)), H', ⟨Nat.le_refl _⟩, ⟨by (with_reducible repeat (first | apply Kd.R_alloc | apply Kd.R_drewN | apply Kd.R_drew)); exact HO_4.out⟩, ⟨by (with_reducible repeat (first | apply Kd.S_alloc | apply Kd.S_drewN | apply Kd.S_drew)); exact Kd.S_mono HO128.out (fun _ hk => trivial)⟩, ⟨by repeat (first | (with_reducible first | exact HB.out | apply below_alloc | apply pw_below_drewN | apply below_drew1) | exact HB.out)⟩⟩
    case round =>
     clear H'
     try clear p1
     try clear q1
     try clear hx1
     try clear c2
     try clear p2
     try clear c4
     try clear c6
     try clear c6b0
     try clear p6
     try clear c7
     try clear c7b0
     try clear c8
     try clear c8b0
     try clear c9
     try clear p12
     try clear q12
     try clear hx12
     try clear hcz11_0
     try clear hcz11_1
     try clear hfz11_0
     try clear hfz11_1
     try clear hx121_0
     try clear hx121_1
     try clear p121
     try clear p2
     try clear q121
     obtain ⟨x4_2, x28_2, rfl, HA, HK2, HO_4, HO_26, HB⟩ := hrel
     cases gk with
     | zero => exact absurd HA.out (by simp [table_Members.l1])
     | succ k2 =>
      have H := HA.out
      clear HA
      simp only [table_Members.l1] at H
      by_cases c16 : x28_2 < (t126.length : Int)
      ·
       rw [if_pos c16] at H
       have c16b0 : decide (x28_2 < (t126.length : Int)) = true := decide_eq_true c16
       clear c16
       by_cases c17 : 0 ≤ x28_2
       ·
        rw [if_pos c17] at H
        have c17b0 : decide (0 ≤ x28_2) = true := decide_eq_true c17
        clear c17
        by_cases c18 : x28_2 < (t126.length : Int)
        ·
         rw [if_pos c18] at H
         have c18b0 : decide (x28_2 < (t126.length : Int)) = true := decide_eq_true c18
         clear c18
         by_cases c19 : x4_2.length < 5864062014805
         ·
          rw [if_pos c19] at H
          have LMc19 := Aside0.mk c19
          clear c19
          obtain ⟨y131, hy131⟩ : ∃ y_ : List (S33), y_ = (x4_2 ++ [(⟨(rd_T61 t126 x28_2).f0, (((rd_T61 t126 x28_2).f1).length : Int)⟩ : S33)]) := ⟨_, rfl⟩
          replace H : (table_Members.l1 k2 y131 t126 (t126.length : Int) (wrap64 (x28_2 + 1))) = some r := by first | (rw [hy131]; with_reducible exact H) | (have H2_ := (Option.bind_some _ _).symm.trans H; rw [hy131]; with_reducible exact H2_) | (have H2_ := (Option.bind_some _ _).symm.trans H; with_reducible exact H2_) | with_reducible exact H | (rw [hy131]; exact H) | exact H
          have Ny131 := Aside0.mk hy131
          clear hy131
          have H' := Aside0.mk H
          clear H
          have p129 : 0 ≤ (x28_2 : Int) := of_decide_eq_true (by first | (with_reducible assumption) | assumption)
          have q129 : x28_2 < (t126.length : Int) := of_decide_eq_true (by first | (with_reducible assumption) | assumption)
          obtain ⟨ad129, A129_1, c129_1, e129, hx129_0, hx129_1, hx129_2, hl129_1, hi129_1⟩ := at_T61 (Kd.S_reads' HO_26.out).2.2 x28_2 p129 q129
          cases e129
          obtain ⟨ce129, hce129, hMe129, hcc129⟩ := Kd.S_get HO_26.out z61 x28_2 p129 (by first | exact q129 | exact of_decide_eq_true (by first | (with_reducible assumption) | assumption) | (have e_ := (Kd.S_reads' HO_26.out).1; omega))
          obtain ⟨ve129_1, rfl, ge129_1⟩ := k61_openM hMe129
          have hv129_1 := hcc129 1 _ rfl
          rw [add_field _ _ 1 (by omega)] at hv129_1
          replace hv129_1 := Option.some.inj (hv129_1.symm.trans hx129_1)
          rw [hv129_1] at ge129_1
          have HL129_1 := Aside0.mk (show Kd.R k58 58 _ _ _ _ ((rd_T61 t126 x28_2).f1) from ge129_1)
          clear hv129_1 ge129_1
          clear hcc129 hce129
          have HR129_1 := Aside0.mk hi129_1
          have HC129_1 := Aside0.mk hl129_1
          clear hi129_1 hl129_1
          replace p129 := eq_true p129
          replace q129 := eq_true q129
          go_wp2_with (first | ((with_reducible refine gate_dst (N := 8) rfl ?_); refine box_event ?hg (N := 8) ?hd (cs := #[.string (⟨#[]⟩ : ByteArray), .slice none 0 0, .string (⟨#[]⟩ : ByteArray)]) (t := 61) ?hr ?_; (case hd => rfl); (case hg => rfl); (case hr => first | (go_simp; done) | (go_simp; rfl)); intro gb130 hg w20 hbox hb; have n0_ := Aside0.mk (Kd.R_below (by (with_reducible repeat (first | apply Kd.R_alloc | apply Kd.R_drewN | apply Kd.R_drew)); exact HO_4.out) hb); have n1_ := Aside0.mk (Kd.S_below (Kd.S_elderB (by (with_reducible repeat (first | apply Kd.S_alloc | apply Kd.S_drewN | apply Kd.S_drew)); exact HO_26.out) gb130 (Nat.le_of_eq hg.symm)) hb); have n2_ := Aside0.mk (Kd.R_below (by (with_reducible repeat (first | apply Kd.R_alloc | apply Kd.R_drewN | apply Kd.R_drew)); exact HL129_1.out) hb); have n3_ := Aside0.mk (Kd.C_below (by repeat (first | (with_reducible exact HR129_1.out) | (with_reducible refine Kd.C_alloc ?_ _) | (with_reducible refine Kd.C_drewN ?_ _) | (with_reducible refine Kd.C_drew ?_) | exact HR129_1.out)) hb); have n4_ := Aside0.mk (below_step (by repeat (first | (with_reducible first | exact HB.out | apply below_alloc | apply pw_below_drewN | apply below_drew1) | exact HB.out)) hb); have n5_ := Aside0.mk (hbox); have n6_ := Aside0.mk ((by rw [hg]; exact (below_size (by repeat (first | (with_reducible first | exact HB.out | apply below_alloc | apply pw_below_drewN | apply below_drew1) | exact HB.out))) : w.heap.size ≤ gb130)); have n7_ := Aside0.mk ((by rw [hg]; exact (below_size (by repeat (first | (with_reducible first | exact HB.out | apply below_alloc | apply pw_below_drewN | apply below_drew1) | exact HB.out))) : w.heap.size ≤ gb130)); clear HO_4; clear HO_26; clear HL129_1; clear HR129_1; clear HB; have HO_4 := n0_; have HO_26 := n1_; have HL129_1 := n2_; have HR129_1 := n3_; have HB := n4_; have BK130 := n5_; have GW130 := n6_; have GE130 := n7_; clear n0_ n1_ n2_ n3_ n4_ n5_ n6_ n7_; clear hb hbox hg; have hcz21_0 : w20.cell? ⟨gb130, 0, none⟩ = some (.string (⟨#[]⟩ : ByteArray)) := (blk_cell BK130.out 0).trans rfl; have hcz21_1 : w20.cell? ⟨gb130, 1, none⟩ = some (.slice none 0 0) := (blk_cell BK130.out 1).trans rfl; have hcz21_2 : w20.cell? ⟨gb130, 2, none⟩ = some (.string (⟨#[]⟩ : ByteArray)) := (blk_cell BK130.out 2).trans rfl; have hfz21_0 := blk_frozen BK130.out 0; have hfz21_1 := blk_frozen BK130.out 1; have hfz21_2 := blk_frozen BK130.out 2) | ((with_reducible refine gate_builtin (b := .append) (xs := #[.tmp 32, .tmp 39]) rfl ?_); at_builtin; refine Kd.R_append k33 (w0 := w) w.heap.size rfl (.tmp 32) (.tmp 39) 29 33 (.agg #[(.string ⟨#[]⟩), (.int .i64 0)]) 24 rfl Try.underlying29 info33 rfl (by decide) (by omega) u4 x4_2 (⟨(rd_T61 t126 x28_2).f0, (((rd_T61 t126 x28_2).f1).length : Int)⟩ : S33) [.string ((rd_T61 t126 x28_2).f0), .int .i64 (((rd_T61 t126 x28_2).f1).length : Int)] (fun _ => True) (fun _ => False) rfl (by first | (go_simp; done) | (go_simp; rfl)) ?aP (fun _ hk => hk.elim) ?aF ?aO ?aB ?aS ?aL ?_; (case aP => exact k33_mkM _ _ _ (⟨(rd_T61 t126 x28_2).f0, (((rd_T61 t126 x28_2).f1).length : Int)⟩ : S33)); (case aB => exact (by repeat (first | (with_reducible first | exact HB.out | apply below_alloc | apply pw_below_drewN | apply below_drew1 | refine below_set ?_ GE130.out) | exact HB.out))); (case aF => exact (fun _ _ => trivial)); (case aO => exact (by (with_reducible repeat (first | apply Kd.R_alloc | apply Kd.R_drewN | apply Kd.R_drew)); exact Kd.R_mono (Kd.R_far (p := ⟨gb130, 2, none⟩) (Kd.R_far (p := ⟨gb130, 1, none⟩) (Kd.R_far (p := ⟨gb130, 0, none⟩) (Kd.R_types HO_4.out BK130.out (by decide)) (fun _ hk => hk.2) (.string ((rd_T61 t126 x28_2).f0))) (fun _ hk => hk.2) (.slice A129_1 ((rd_T61 t126 x28_2).f1).length c129_1)) (fun _ hk => hk.2) (.string ((rd_T61 t126 x28_2).f2))) (fun _ hk => trivial))); (case aS => exact (below_size (by repeat (first | (with_reducible first | exact HB.out | apply below_alloc | apply pw_below_drewN | apply below_drew1 | refine below_set ?_ GE130.out) | exact HB.out)))); (case aL => have := LMc19.out; omega); intro v132 w22 ho hb hg hat; rw [← Ny131.out] at ho; have n0_ := Aside0.mk (Kd.S_over' (by (with_reducible repeat (first | apply Kd.S_alloc | apply Kd.S_drewN | apply Kd.S_drew)); exact (Kd.S_mono (Kd.S_far (p := ⟨gb130, 2, none⟩) (Kd.S_far (p := ⟨gb130, 1, none⟩) (Kd.S_far (p := ⟨gb130, 0, none⟩) (Kd.S_mono HO_26.out (fun k_ hk => (⟨hk, hk.2⟩ : _ ∧ k_ ≠ gb130))) (fun _ hk => hk.2) (.string ((rd_T61 t126 x28_2).f0))) (fun _ hk => hk.2) (.slice A129_1 ((rd_T61 t126 x28_2).f1).length c129_1)) (fun _ hk => hk.2) (.string ((rd_T61 t126 x28_2).f2))) (fun _ h_ => h_.1))) (Kd.R_typed (by (with_reducible repeat (first | apply Kd.R_alloc | apply Kd.R_drewN | apply Kd.R_drew)); exact (Kd.R_mono (Kd.R_far (p := ⟨gb130, 2, none⟩) (Kd.R_far (p := ⟨gb130, 1, none⟩) (Kd.R_far (p := ⟨gb130, 0, none⟩) (Kd.R_types HO_4.out BK130.out (by decide)) (fun _ hk => hk.2) (.string ((rd_T61 t126 x28_2).f0))) (fun _ hk => hk.2) (.slice A129_1 ((rd_T61 t126 x28_2).f1).length c129_1)) (fun _ hk => hk.2) (.string ((rd_T61 t126 x28_2).f2))) (fun _ h_ => h_.1)))) (by decide) hg); have n1_ := Aside0.mk (Kd.R_over' (by (with_reducible repeat (first | apply Kd.R_alloc | apply Kd.R_drewN | apply Kd.R_drew)); exact (Kd.R_mono (Kd.R_far (p := ⟨gb130, 2, none⟩) (Kd.R_far (p := ⟨gb130, 1, none⟩) (Kd.R_far (p := ⟨gb130, 0, none⟩) (Kd.R_types HL129_1.out BK130.out (by decide)) (fun _ hk => hk.2) (.string ((rd_T61 t126 x28_2).f0))) (fun _ hk => hk.2) (.slice A129_1 ((rd_T61 t126 x28_2).f1).length c129_1)) (fun _ hk => hk.2) (.string ((rd_T61 t126 x28_2).f2))) (fun _ h_ => h_.1))) (Kd.R_typed (by (with_reducible repeat (first | apply Kd.R_alloc | apply Kd.R_drewN | apply Kd.R_drew)); exact (Kd.R_mono (Kd.R_far (p := ⟨gb130, 2, none⟩) (Kd.R_far (p := ⟨gb130, 1, none⟩) (Kd.R_far (p := ⟨gb130, 0, none⟩) (Kd.R_types HO_4.out BK130.out (by decide)) (fun _ hk => hk.2) (.string ((rd_T61 t126 x28_2).f0))) (fun _ hk => hk.2) (.slice A129_1 ((rd_T61 t126 x28_2).f1).length c129_1)) (fun _ hk => hk.2) (.string ((rd_T61 t126 x28_2).f2))) (fun _ h_ => h_.1)))) (by decide) hg); have n2_ := Aside0.mk (blk_grown (g := gb130) (o := .cells #[.string ((rd_T61 t126 x28_2).f0), .slice A129_1 ((rd_T61 t126 x28_2).f1).length c129_1, .string ((rd_T61 t126 x28_2).f2)] 61 (0, 0)) (by (with_reducible repeat (first | refine blk_drewN ?_ _ | refine blk_drew ?_ | refine blk_alloc ?_ _)); refine blk_put (cs := #[.string ((rd_T61 t126 x28_2).f0), .slice A129_1 ((rd_T61 t126 x28_2).f1).length c129_1, .string (⟨#[]⟩ : ByteArray)]) ?_ 2 _ rfl; (with_reducible repeat (first | refine blk_drewN ?_ _ | refine blk_drew ?_ | refine blk_alloc ?_ _)); refine blk_put (cs := #[.string ((rd_T61 t126 x28_2).f0), .slice none 0 0, .string (⟨#[]⟩ : ByteArray)]) ?_ 1 _ rfl; (with_reducible repeat (first | refine blk_drewN ?_ _ | refine blk_drew ?_ | refine blk_alloc ?_ _)); refine blk_put (cs := #[.string (⟨#[]⟩ : ByteArray), .slice none 0 0, .string (⟨#[]⟩ : ByteArray)]) ?_ 0 _ rfl; (with_reducible repeat (first | refine blk_drewN ?_ _ | refine blk_drew ?_ | refine blk_alloc ?_ _)); exact BK130.out) hg (Kd.R_ne HO_4.out BK130.out (by decide))); have n3_ := Aside0.mk (hb); have n4_ := Aside0.mk (ho); clear HO_26; clear HL129_1; clear BK130; clear HB; clear HO_4; have HO_26 := n0_; have HL129_1 := n1_; have BK130 := n2_; have HB := n3_; have HO133 := n4_; clear n0_ n1_ n2_ n3_ n4_; clear ho hb hg hat))
          go_roundg k2
          case measure => have := HK1.out; have := HK2.out; omega
          case rel => exact ⟨(y131), (wrap64 (x28_2 + 1)), (by first | rfl | (simp; done) | (simp [*]; done)), H', ⟨by have := HK1.out; have := HK2.out; omega⟩, ⟨by (with_reducible repeat (first | apply Kd.R_alloc | apply Kd.R_drewN | apply Kd.R_drew)); exact HO133.out⟩, ⟨by (with_reducible repeat (first | apply Kd.S_alloc | apply Kd.S_drewN | apply Kd.S_drew)); exact Kd.S_mono HO_26.out (fun _ hk => trivial)⟩, ⟨by repeat (first | (with_reducible first | exact HB.out | apply below_alloc | apply pw_below_drewN | apply below_drew1 | refine below_set ?_ GE130.out) | exact HB.out)⟩⟩
         ·
          rw [if_neg c19] at H
          exact absurd H (by simp)
        ·
         rw [if_neg c18] at H
         exact absurd H (by simp)
       ·
        rw [if_neg c17] at H
        exact absurd H (by simp)
      ·
       rw [if_neg c16] at H
       have c16b0 : decide (x28_2 < (t126.length : Int)) = false := decide_eq_false c16
       clear c16
       obtain rfl := Option.some.inj H
       go_wp2
       go_ret
       exact ⟨_, by first | rfl | (simp [errW_none, errW_some] <;> rfl) | (simp [*, errW_none, errW_some] <;> rfl), by (with_reducible repeat (first | apply Kd.R_alloc | apply Kd.R_drewN | apply Kd.R_drew)); exact HO_4.out, by repeat (first | (with_reducible first | exact HB.out | apply below_alloc | apply pw_below_drewN | apply below_drew1) | exact HB.out)⟩
end Go.Proofs.Ytinkbljjpafadaa.PAll
end

section
namespace Go.Proofs.Ytinkbljjpafadaa.PAll
open Go.RowKit Go.Proofs.YtinkbljjpafadaaW.PrintWords Go.Proofs.YtinkbljjpafadaaW.PrintLast Go.Proofs.YtinkbljjpafadaaW.PrintMore
attribute [local go_sem] max2_int min2_int max_two min_two max_three min_three max_four min_four   -- for this text's walks alone
set_option linter.unusedVariables false
set_option linter.unusedSimpArgs false
def slices_Index_string_string.idx (s : ByteArray) : List ByteArray → Nat → Int
 | [], _ => -1
 | x :: r, i => if s.toList = x.toList then (i : Int) else slices_Index_string_string.idx s r (i + 1)
def slices_Index_string_string.f (l0 : List ByteArray) (a1 : ByteArray) : Option Int := if l0.length < 4398046511104 then some (slices_Index_string_string.idx a1 l0 0) else none
theorem slices_Index_string_string.idx_at (s : ByteArray) (l : List ByteArray) (i : Nat) (h : i < l.length) : slices_Index_string_string.idx s (l.drop i) i = if s.toList = (rdOf ByteArray.empty l (i : Int)).toList then (i : Int) else slices_Index_string_string.idx s (l.drop (i + 1)) (i + 1) := by
 rw [List.drop_eq_getElem_cons h]
 unfold rdOf
 rw [Int.toNat_natCast, List.getD_eq_getElem?_getD, List.getElem?_eq_getElem h]; rfl
set_option maxHeartbeats 1000000 in
set_option maxRecDepth 100000 in
theorem slices_Index_string_string.calls (A0 : Option Addr) (c0 : Nat) (l0 : List ByteArray) (a1 : ByteArray) (r : Int) (w : World) (hr0 : Kd.C Kd.string w A0 l0.length l0) (hc0 : l0.length ≤ c0) (h : slices_Index_string_string.f l0 a1 = some r) :
  Calls Try.prog 66 #[.slice A0 l0.length c0, .string a1] w fun e w' => e = .returned (.int .i64 r) ∧ Drawn0 w w' := by
 unfold slices_Index_string_string.f at h
 by_cases hl : l0.length < 4398046511104
 case neg => rw [if_neg hl] at h; cases h
 rw [if_pos hl] at h
 have HH := Aside0.mk (Option.some.inj h)
 have HR0 := Aside0.mk hr0
 clear hr0 hc0 h
 go_enter Try.func66, Try.ntmps66
 go_wp2
 go_loop [8] (fun v8 => ∃ i : Nat, i ≤ l0.length ∧ v8 = .int .i64 i ∧ Aside0 (slices_Index_string_string.idx a1 (l0.drop i) i = r)) (fun v8 => l0.length - (intOf v8).toNat)
 case atStart => exact ⟨0, Nat.zero_le _, rfl, HH⟩
 case round =>
  obtain ⟨i, hi, rfl, HI⟩ := hrel
  by_cases hlt : i < l0.length
  ·
   obtain ⟨ad, hA, x0⟩ := Kd.at_string HR0.out (i : Int) (by omega) (by omega)
   rw [Int.toNat_natCast] at x0
   have HA := slices_Index_string_string.idx_at a1 l0 i hlt
   rw [HI.out] at HA
   obtain ⟨x, hx⟩ : ∃ x, x = rdOf ByteArray.empty l0 (i : Int) := ⟨_, rfl⟩
   rw [← hx] at HA x0
   clear hx
   subst hA
   by_cases he : a1.toList = x.toList
   ·
    rw [if_pos he] at HA
    have hq : (a1.toList == x.toList) = true := by simpa using he
    subst HA
    clear he
    go_wp2
    go_ret
    exact ⟨rfl, Drawn0.refl _⟩
   ·
    rw [if_neg he] at HA
    have hq : (a1.toList == x.toList) = false := by simpa using he
    have HA2 := Aside0.mk HA.symm
    clear he HA
    go_wp2
    go_round
    case rel => exact ⟨i + 1, by omega, by go_num, HA2⟩
    case measure => simp [intOf]; omega
  ·
   have hi2 : i = l0.length := by omega
   have HA := HI.out
   rw [hi2, List.drop_length] at HA
   have HA2 := Aside0.mk HA
   clear HA hi2
   go_wp2
   go_ret
   exact ⟨by rw [← HA2.out]; rfl, Drawn0.refl _⟩
end Go.Proofs.Ytinkbljjpafadaa.PAll
end

section
namespace Go.Proofs.Ytinkbljjpafadaa.PAll
open Go.RowKit Go.Proofs.YtinkbljjpafadaaW.PrintWords Go.Proofs.YtinkbljjpafadaaW.PrintLast Go.Proofs.YtinkbljjpafadaaW.PrintMore
attribute [local go_sem] max2_int min2_int max_two min_two max_three min_three max_four min_four   -- for this text's walks alone
set_option linter.unusedVariables false
set_option linter.unusedSimpArgs false
def slices_Contains_string_string.f (l0 : List ByteArray) (a1 : ByteArray) : Option (Bool) := (slices_Index_string_string.f l0 a1).bind fun t134 => (some (decide (t134 ≥ 0)))
set_option maxHeartbeats 8000000 in
set_option maxRecDepth 100000 in
theorem slices_Contains_string_string.calls (A0 : Option Addr) (c0 : Nat) (l0 : List ByteArray) (a1 : ByteArray) (r : Bool) (w : World) (hr0 : Kd.C Kd.string w A0 l0.length l0) (hc0 : l0.length ≤ c0) (h : slices_Contains_string_string.f l0 a1 = some r) :
  Calls Try.prog 48 #[.slice A0 l0.length c0, .string a1] w fun e w' => e = .returned (.bool r) ∧ Drawn0 w w' := by
 have HR0 := Aside0.mk hr0
 have HC0 := Aside0.mk hc0
 clear hr0 hc0
 have H : ((slices_Index_string_string.f l0 a1).bind fun t134 => (some (decide (t134 ≥ 0)))) = some r := h
 clear h
 replace H := Option.bind_eq_some_iff.mp H
 obtain ⟨t134, A30, H⟩ := H
 replace H : (some (decide (t134 ≥ 0))) = some r := H
 have A3 := Aside0.mk A30
 clear A30
 obtain rfl := Option.some.inj H
 go_enter Try.func48, Try.ntmps48
 go_wp2_with (first | ((with_reducible refine gate_callee (f := 66) rfl ?_); refine goesL_ (some 7) rfl rfl Try.func66 (by kernel_rfl) rfl #[.slice A0 l0.length c0, .string a1] rfl (by (try simp only [List.map_toArray, List.map_cons, List.map_nil]); first | done | rfl | (simp only [List.length_drop, List.length_take]; rfl)) ?_; (with_reducible refine (slices_Index_string_string.calls _ _ l0 a1 t134 _ ?side1 ?side2 A3.out).mono ?_); (case side1 => repeat (first | exact HR0.out | (with_reducible refine Kd.C_alloc ?_ _) | (with_reducible refine Kd.C_drewN ?_ _) | (with_reducible refine Kd.C_drew ?_))); (case side2 => exact HC0.out); rintro e w' ⟨rfl, ⟨nd, rfl⟩⟩; refine ⟨_, rfl, ?_⟩))
 go_ret
 exact ⟨by first | rfl | (simp; done) | (simp [*]; done), by repeat (first | exact Drawn0.refl _ | apply Drawn0.step)⟩
end Go.Proofs.Ytinkbljjpafadaa.PAll
end

section
namespace Go.Proofs.Ytinkbljjpafadaa.PAll
open Go.RowKit Go.Proofs.YtinkbljjpafadaaW.PrintWords Go.Proofs.YtinkbljjpafadaaW.PrintLast Go.Proofs.YtinkbljjpafadaaW.PrintMore
attribute [local go_sem] max2_int min2_int max_two min_two max_three min_three max_four min_four   -- for this text's walks alone
set_option linter.unusedVariables false
set_option linter.unusedSimpArgs false
def chain_Classes.l0 : Nat → List ByteArray → List (S35) → Int → Int → Option (List ByteArray)
 | 0, _, _, _, _ => none
 | k + 1, x5, x10, x11, x12 => if x12 < x11 then (if 0 ≤ x12 then (if x12 < (x10.length : Int) then ((slices_Contains_string_string.f x5 ((rd_T35 x10 x12).f1)).bind fun t140 => (if t140 = true then (chain_Classes.l0 k x5 x10 x11 (wrap64 (x12 + 1))) else (if x5.length < 8796093022208 then (chain_Classes.l0 k (x5 ++ [(rd_T35 x10 x12).f1]) x10 x11 (wrap64 (x12 + 1))) else (none)))) else (none)) else (none)) else (some x5)
def chain_Classes.f (k : Nat) (a0 : ByteArray) (l1 : List (S35)) : Option (List ByteArray) := chain_Classes.l0 k (([a0] : List ByteArray)) l1 (l1.length : Int) 0
theorem chain_Classes.mono_l : ∀ k, (∀ y0 y1 y2 y3, LeO (chain_Classes.l0 k y0 y1 y2 y3) (chain_Classes.l0 (k + 1) y0 y1 y2 y3))
 | 0 => fun _ _ _ _ r h => by simp [chain_Classes.l0] at h
 | k + 1 => by
  have ih0 := chain_Classes.mono_l k
  ·
   intro y0 y1 y2 y3
   unfold chain_Classes.l0
   repeat' first
   | (with_reducible exact ih0 _ _ _ _)
   | (with_reducible exact LeO.refl _)
   | (with_reducible exact LeO.none _)
   | (with_reducible refine LeO.ite ?_ ?_)
   | (with_reducible refine LeO.bind ?_ (fun _ => ?_))
   | exact ih0 _ _ _ _
   | exact LeO.none _
   | refine LeO.ite ?_ ?_
   | refine LeO.bind ?_ (fun _ => ?_)
theorem chain_Classes.mono : ∀ a0 a1 k, LeO (chain_Classes.f k a0 a1) (chain_Classes.f (k + 1) a0 a1) := by
 intro a0 a1 k
 have ih0 := chain_Classes.mono_l k
 unfold chain_Classes.f
 repeat' first
   | (with_reducible exact ih0 _ _ _ _)
   | (with_reducible exact LeO.refl _)
   | (with_reducible exact LeO.none _)
   | (with_reducible refine LeO.ite ?_ ?_)
   | (with_reducible refine LeO.bind ?_ (fun _ => ?_))
   | exact ih0 _ _ _ _
   | exact LeO.none _
   | refine LeO.ite ?_ ?_
   | refine LeO.bind ?_ (fun _ => ?_)
set_option maxHeartbeats 8000000 in
set_option maxRecDepth 100000 in
theorem chain_Classes.calls (k : Nat) (a0 : ByteArray) (A1 : Option Addr) (c1 : Nat) (l1 : List (S35)) (r : List ByteArray) (w : World) (hr1 : Kd.C k35 w A1 l1.length l1) (hc1 : l1.length ≤ c1) (h : chain_Classes.f k a0 l1 = some r) :
  Calls Try.prog 31 #[.string a0, .slice A1 l1.length c1] w fun e w' => ∃ v0_ : Value, e = .returned (v0_) ∧ Kd.R Kd.string 9 w' w.heap.size (fun _ => True) v0_ r ∧ Below w.heap.size w w' := by
 have hu35 := Try.underlying35
 have HR1 := Aside0.mk hr1
 have HC1 := Aside0.mk hc1
 clear hr1 hc1
 have HB := Aside0.mk (Below.refl w.heap.size w)
 have H : (chain_Classes.l0 k (([a0] : List ByteArray)) l1 (l1.length : Int) 0) = some r := h
 clear h
 obtain ⟨y135, hy135⟩ : ∃ y_ : List ByteArray, y_ = (([a0] : List ByteArray)) := ⟨_, rfl⟩
 replace H : (chain_Classes.l0 k y135 l1 (l1.length : Int) 0) = some r := by first | (rw [hy135]; with_reducible exact H) | (have H2_ := (Option.bind_some _ _).symm.trans H; rw [hy135]; with_reducible exact H2_) | (have H2_ := (Option.bind_some _ _).symm.trans H; with_reducible exact H2_) | with_reducible exact H | (rw [hy135]; exact H) | exact H
 have Ny135 := Aside0.mk hy135
 clear hy135
 have H' := Aside0.mk H
 clear H
 go_enter Try.func31, Try.ntmps31
 go_wp2_with (first | ((with_reducible refine gate_dst (N := 9) rfl ?_); refine Kd.R_lit Kd.string _ 9 ?hg (N := 9) ?hd (xs := ([a0] : List ByteArray)) (inner := [.string a0]) (ok := fun _ => True) (okp := fun _ => True) ?hr ?hp (fun _ hk => hk) trivial (Below.refl _ _) (Nat.le_refl _) (by simp) ?_; (case hd => rfl); (case hg => rfl); (case hr => first | (go_simp; done) | (go_simp; rfl)); (case hp => exact (Reps.one (show Kd.M Kd.string _ _ _ a0 [.string a0] from rfl) (Reps.none _ _))); intro v136 w3 ho4 hb hg_ hnew_; clear hg_ hnew_; (first | rw [← Ny135.out] at ho4 | (simp only [Int.reduceToNat] at ho4; rw [← Ny135.out] at ho4)); have n0_ := Aside0.mk (Kd.R_lower ho4 (below_size (by repeat (first | (with_reducible first | exact HB.out | apply below_alloc | apply pw_below_drewN | apply below_drew1) | exact HB.out)))); have n1_ := Aside0.mk (below_step (by repeat (first | (with_reducible first | exact HB.out | apply below_alloc | apply pw_below_drewN | apply below_drew1) | exact HB.out)) hb); clear HB; have HO137 := n0_; have HB := n1_; clear n0_ n1_; clear hb ho4))
 go_loopg [5, 12] k (fun kq v5 v12 w' => ∃ (x5_1 : List ByteArray) (x12_1 : Int), v12 = .int .i64 x12_1 ∧ Aside0 (chain_Classes.l0 kq x5_1 l1 (l1.length : Int) x12_1 = some r) ∧ Aside0 (kq ≤ k) ∧ Aside0 (Kd.R Kd.string 9 w' w.heap.size (fun _ => True) v5 x5_1) ∧ Aside0 (Below w.heap.size w w'))
 case atStart => exact ⟨(y135), (0), (by first | rfl | (simp; done) | (simp [*]; done)), H', ⟨Nat.le_refl _⟩, ⟨by (with_reducible repeat (first | apply Kd.R_alloc | apply Kd.R_drewN | apply Kd.R_drew)); exact HO137.out⟩, ⟨by repeat (first | (with_reducible first | exact HB.out | apply below_alloc | apply pw_below_drewN | apply below_drew1) | exact HB.out)⟩⟩
 case round =>
  clear H'
  try clear c1
  try clear p2
  try clear c3
  obtain ⟨x5_1, x12_1, rfl, HA, HK1, HO_5, HB⟩ := hrel
  cases gk with
  | zero => exact absurd HA.out (by simp [chain_Classes.l0])
  | succ k1 =>
   have H := HA.out
   clear HA
   simp only [chain_Classes.l0] at H
   by_cases c5 : x12_1 < (l1.length : Int)
   ·
    rw [if_pos c5] at H
    have c5b0 : decide (x12_1 < (l1.length : Int)) = true := decide_eq_true c5
    clear c5
    by_cases c6 : 0 ≤ x12_1
    ·
     rw [if_pos c6] at H
     have c6b0 : decide (0 ≤ x12_1) = true := decide_eq_true c6
     clear c6
     by_cases c7 : x12_1 < (l1.length : Int)
     ·
      rw [if_pos c7] at H
      have c7b0 : decide (x12_1 < (l1.length : Int)) = true := decide_eq_true c7
      clear c7
      replace H := Option.bind_eq_some_iff.mp H
      obtain ⟨t140, A80, H⟩ := H
      replace H : (if t140 = true then (chain_Classes.l0 k1 x5_1 l1 (l1.length : Int) (wrap64 (x12_1 + 1))) else (if x5_1.length < 8796093022208 then (chain_Classes.l0 k1 (x5_1 ++ [(rd_T35 l1 x12_1).f1]) l1 (l1.length : Int) (wrap64 (x12_1 + 1))) else (none))) = some r := H
      have A8 := Aside0.mk A80
      clear A80
      by_cases c9 : t140 = true
      ·
       subst c9
       have H1 : (chain_Classes.l0 k1 x5_1 l1 (l1.length : Int) (wrap64 (x12_1 + 1))) = some r := by rw [if_pos rfl] at H; exact H
       clear H
       have H := H1
       clear H1
       have H' := Aside0.mk H
       clear H
       have p138 : 0 ≤ (x12_1 : Int) := of_decide_eq_true (by first | (with_reducible assumption) | assumption)
       have q138 : x12_1 < (l1.length : Int) := of_decide_eq_true (by first | (with_reducible assumption) | assumption)
       obtain ⟨ad138, e138, hx138_0, hx138_1, hx138_2⟩ := at_T35 HR1.out x12_1 p138 q138
       cases e138
       replace hx138_0 := (HB.out.cell (World.block_lt_of_cell? w _ hx138_0)).trans hx138_0
       replace hx138_1 := (HB.out.cell (World.block_lt_of_cell? w _ hx138_1)).trans hx138_1
       replace hx138_2 := (HB.out.cell (World.block_lt_of_cell? w _ hx138_2)).trans hx138_2
       replace p138 := eq_true p138
       replace q138 := eq_true q138
       go_wp2_with (first | ((with_reducible refine gate_dst (N := 7) rfl ?_); refine box_event ?hg (N := 7) ?hd (cs := #[.bool false, .string (⟨#[]⟩ : ByteArray), .int .i64 0]) (t := 35) ?hr ?_; (case hd => rfl); (case hg => rfl); (case hr => first | (go_simp; done) | (go_simp; rfl)); intro gb139 hg w10 hbox hb; have n0_ := Aside0.mk (Kd.R_below (by (with_reducible repeat (first | apply Kd.R_alloc | apply Kd.R_drewN | apply Kd.R_drew)); exact HO_5.out) hb); have n1_ := Aside0.mk (below_step (by repeat (first | (with_reducible first | exact HB.out | apply below_alloc | apply pw_below_drewN | apply below_drew1) | exact HB.out)) hb); have n2_ := Aside0.mk (hbox); have n3_ := Aside0.mk ((by rw [hg]; exact (below_size (by repeat (first | (with_reducible first | exact HB.out | apply below_alloc | apply pw_below_drewN | apply below_drew1) | exact HB.out))) : w.heap.size ≤ gb139)); have n4_ := Aside0.mk ((by rw [hg]; exact (below_size (by repeat (first | (with_reducible first | exact HB.out | apply below_alloc | apply pw_below_drewN | apply below_drew1) | exact HB.out))) : w.heap.size ≤ gb139)); clear HO_5; clear HB; have HO_5 := n0_; have HB := n1_; have BK139 := n2_; have GW139 := n3_; have GE139 := n4_; clear n0_ n1_ n2_ n3_ n4_; clear hb hbox hg; have hcz11_0 : w10.cell? ⟨gb139, 0, none⟩ = some (.bool false) := (blk_cell BK139.out 0).trans rfl; have hcz11_1 : w10.cell? ⟨gb139, 1, none⟩ = some (.string (⟨#[]⟩ : ByteArray)) := (blk_cell BK139.out 1).trans rfl; have hcz11_2 : w10.cell? ⟨gb139, 2, none⟩ = some (.int .i64 0) := (blk_cell BK139.out 2).trans rfl; have hfz11_0 := blk_frozen BK139.out 0; have hfz11_1 := blk_frozen BK139.out 1; have hfz11_2 := blk_frozen BK139.out 2; obtain ⟨Ao12, co12, eo12⟩ := Kd.R_slice HO_5.out; subst eo12) | ((with_reducible refine gate_callee (f := 48) rfl ?_); refine goesL_ (some 19) rfl rfl Try.func48 (by kernel_rfl) rfl #[.slice Ao12 x5_1.length co12, .string ((rd_T35 l1 x12_1).f1)] rfl (by (try simp only [List.map_toArray, List.map_cons, List.map_nil]); first | done | rfl | (simp only [List.length_drop, List.length_take]; rfl)) ?_; (with_reducible refine (slices_Contains_string_string.calls _ _ x5_1 ((rd_T35 l1 x12_1).f1) true _ ?side1 ?side2 A8.out).mono ?_); (case side1 => refine (Kd.R_reads' (e := 9) (base := w.heap.size) (ok := fun k_ => True) (n := x5_1.length) (c := co12) ?_).2.2; exact (by (with_reducible repeat (first | apply Kd.R_alloc | apply Kd.R_drewN | apply Kd.R_drew)); exact (Kd.R_mono (Kd.R_far (p := ⟨gb139, 2, none⟩) (Kd.R_far (p := ⟨gb139, 1, none⟩) (Kd.R_far (p := ⟨gb139, 0, none⟩) (Kd.R_types HO_5.out BK139.out (by decide)) (fun _ hk => hk.2) (.bool ((rd_T35 l1 x12_1).f0))) (fun _ hk => hk.2) (.string ((rd_T35 l1 x12_1).f1))) (fun _ hk => hk.2) (.int .i64 ((rd_T35 l1 x12_1).f2))) (fun _ h_ => h_.1)))); (case side2 => exact (Kd.R_reads' HO_5.out).2.1); rintro e w' ⟨rfl, ⟨nd, rfl⟩⟩; refine ⟨_, rfl, ?_⟩))
       go_roundg k1
       case measure => have := HK1.out; omega
       case rel => exact ⟨(x5_1), (wrap64 (x12_1 + 1)), (by first | rfl | (simp; done) | (simp [*]; done)), H', ⟨by have := HK1.out; omega⟩, ⟨by (with_reducible repeat (first | apply Kd.R_alloc | apply Kd.R_drewN | apply Kd.R_drew)); exact Kd.R_mono (Kd.R_far (p := ⟨gb139, 2, none⟩) (Kd.R_far (p := ⟨gb139, 1, none⟩) (Kd.R_far (p := ⟨gb139, 0, none⟩) (Kd.R_types HO_5.out BK139.out (by decide)) (fun _ hk => hk.2) (.bool ((rd_T35 l1 x12_1).f0))) (fun _ hk => hk.2) (.string ((rd_T35 l1 x12_1).f1))) (fun _ hk => hk.2) (.int .i64 ((rd_T35 l1 x12_1).f2))) (fun _ hk => trivial)⟩, ⟨by repeat (first | (with_reducible first | exact HB.out | apply below_alloc | apply pw_below_drewN | apply below_drew1 | refine below_set ?_ GE139.out) | exact HB.out)⟩⟩
      ·
       replace c9 := Bool.eq_false_iff.mpr c9
       subst c9
       have H1 : (if x5_1.length < 8796093022208 then (chain_Classes.l0 k1 (x5_1 ++ [(rd_T35 l1 x12_1).f1]) l1 (l1.length : Int) (wrap64 (x12_1 + 1))) else (none)) = some r := by rw [if_neg (show ¬ (false = true) by decide)] at H; exact H
       clear H
       have H := H1
       clear H1
       by_cases c13 : x5_1.length < 8796093022208
       ·
        rw [if_pos c13] at H
        have LMc13 := Aside0.mk c13
        clear c13
        obtain ⟨y141, hy141⟩ : ∃ y_ : List ByteArray, y_ = (x5_1 ++ [(rd_T35 l1 x12_1).f1]) := ⟨_, rfl⟩
        replace H : (chain_Classes.l0 k1 y141 l1 (l1.length : Int) (wrap64 (x12_1 + 1))) = some r := by first | (rw [hy141]; with_reducible exact H) | (have H2_ := (Option.bind_some _ _).symm.trans H; rw [hy141]; with_reducible exact H2_) | (have H2_ := (Option.bind_some _ _).symm.trans H; with_reducible exact H2_) | with_reducible exact H | (rw [hy141]; exact H) | exact H
        have Ny141 := Aside0.mk hy141
        clear hy141
        have H' := Aside0.mk H
        clear H
        have p138 : 0 ≤ (x12_1 : Int) := of_decide_eq_true (by first | (with_reducible assumption) | assumption)
        have q138 : x12_1 < (l1.length : Int) := of_decide_eq_true (by first | (with_reducible assumption) | assumption)
        obtain ⟨ad138, e138, hx138_0, hx138_1, hx138_2⟩ := at_T35 HR1.out x12_1 p138 q138
        cases e138
        replace hx138_0 := (HB.out.cell (World.block_lt_of_cell? w _ hx138_0)).trans hx138_0
        replace hx138_1 := (HB.out.cell (World.block_lt_of_cell? w _ hx138_1)).trans hx138_1
        replace hx138_2 := (HB.out.cell (World.block_lt_of_cell? w _ hx138_2)).trans hx138_2
        replace p138 := eq_true p138
        replace q138 := eq_true q138
        go_wp2_with (first | ((with_reducible refine gate_dst (N := 7) rfl ?_); refine box_event ?hg (N := 7) ?hd (cs := #[.bool false, .string (⟨#[]⟩ : ByteArray), .int .i64 0]) (t := 35) ?hr ?_; (case hd => rfl); (case hg => rfl); (case hr => first | (go_simp; done) | (go_simp; rfl)); intro gb139 hg w14 hbox hb; have n0_ := Aside0.mk (Kd.R_below (by (with_reducible repeat (first | apply Kd.R_alloc | apply Kd.R_drewN | apply Kd.R_drew)); exact HO_5.out) hb); have n1_ := Aside0.mk (below_step (by repeat (first | (with_reducible first | exact HB.out | apply below_alloc | apply pw_below_drewN | apply below_drew1) | exact HB.out)) hb); have n2_ := Aside0.mk (hbox); have n3_ := Aside0.mk ((by rw [hg]; exact (below_size (by repeat (first | (with_reducible first | exact HB.out | apply below_alloc | apply pw_below_drewN | apply below_drew1) | exact HB.out))) : w.heap.size ≤ gb139)); have n4_ := Aside0.mk ((by rw [hg]; exact (below_size (by repeat (first | (with_reducible first | exact HB.out | apply below_alloc | apply pw_below_drewN | apply below_drew1) | exact HB.out))) : w.heap.size ≤ gb139)); clear HO_5; clear HB; have HO_5 := n0_; have HB := n1_; have BK139 := n2_; have GW139 := n3_; have GE139 := n4_; clear n0_ n1_ n2_ n3_ n4_; clear hb hbox hg; have hcz15_0 : w14.cell? ⟨gb139, 0, none⟩ = some (.bool false) := (blk_cell BK139.out 0).trans rfl; have hcz15_1 : w14.cell? ⟨gb139, 1, none⟩ = some (.string (⟨#[]⟩ : ByteArray)) := (blk_cell BK139.out 1).trans rfl; have hcz15_2 : w14.cell? ⟨gb139, 2, none⟩ = some (.int .i64 0) := (blk_cell BK139.out 2).trans rfl; have hfz15_0 := blk_frozen BK139.out 0; have hfz15_1 := blk_frozen BK139.out 1; have hfz15_2 := blk_frozen BK139.out 2; obtain ⟨Ao16, co16, eo16⟩ := Kd.R_slice HO_5.out; subst eo16) | ((with_reducible refine gate_callee (f := 48) rfl ?_); refine goesL_ (some 19) rfl rfl Try.func48 (by kernel_rfl) rfl #[.slice Ao16 x5_1.length co16, .string ((rd_T35 l1 x12_1).f1)] rfl (by (try simp only [List.map_toArray, List.map_cons, List.map_nil]); first | done | rfl | (simp only [List.length_drop, List.length_take]; rfl)) ?_; (with_reducible refine (slices_Contains_string_string.calls _ _ x5_1 ((rd_T35 l1 x12_1).f1) false _ ?side1 ?side2 A8.out).mono ?_); (case side1 => refine (Kd.R_reads' (e := 9) (base := w.heap.size) (ok := fun k_ => True) (n := x5_1.length) (c := co16) ?_).2.2; exact (by (with_reducible repeat (first | apply Kd.R_alloc | apply Kd.R_drewN | apply Kd.R_drew)); exact (Kd.R_mono (Kd.R_far (p := ⟨gb139, 2, none⟩) (Kd.R_far (p := ⟨gb139, 1, none⟩) (Kd.R_far (p := ⟨gb139, 0, none⟩) (Kd.R_types HO_5.out BK139.out (by decide)) (fun _ hk => hk.2) (.bool ((rd_T35 l1 x12_1).f0))) (fun _ hk => hk.2) (.string ((rd_T35 l1 x12_1).f1))) (fun _ hk => hk.2) (.int .i64 ((rd_T35 l1 x12_1).f2))) (fun _ h_ => h_.1)))); (case side2 => exact (Kd.R_reads' HO_5.out).2.1); rintro e w' ⟨rfl, ⟨nd, rfl⟩⟩; refine ⟨_, rfl, ?_⟩) | ((with_reducible refine gate_builtin (b := .append) (xs := #[.tmp 21, .tmp 24]) rfl ?_); at_builtin; refine Kd.R_append Kd.string (w0 := w) w.heap.size rfl (.tmp 21) (.tmp 24) 65 9 (.string ⟨#[]⟩) 16 rfl Try.underlying65 info9 rfl (by decide) (by omega) (.slice Ao16 x5_1.length co16) x5_1 ((rd_T35 l1 x12_1).f1) [.string ((rd_T35 l1 x12_1).f1)] (fun _ => True) (fun _ => False) rfl (by first | (go_simp; done) | (go_simp; rfl)) ?aP (fun _ hk => hk.elim) ?aF ?aO ?aB ?aS ?aL ?_; (case aP => exact rfl); (case aB => exact (by repeat (first | (with_reducible first | exact HB.out | apply below_alloc | apply pw_below_drewN | apply below_drew1 | refine below_set ?_ GE139.out) | exact HB.out))); (case aF => exact (fun _ _ => trivial)); (case aO => exact (by (with_reducible repeat (first | apply Kd.R_alloc | apply Kd.R_drewN | apply Kd.R_drew)); exact Kd.R_mono (Kd.R_far (p := ⟨gb139, 2, none⟩) (Kd.R_far (p := ⟨gb139, 1, none⟩) (Kd.R_far (p := ⟨gb139, 0, none⟩) (Kd.R_types HO_5.out BK139.out (by decide)) (fun _ hk => hk.2) (.bool ((rd_T35 l1 x12_1).f0))) (fun _ hk => hk.2) (.string ((rd_T35 l1 x12_1).f1))) (fun _ hk => hk.2) (.int .i64 ((rd_T35 l1 x12_1).f2))) (fun _ hk => trivial))); (case aS => exact (below_size (by repeat (first | (with_reducible first | exact HB.out | apply below_alloc | apply pw_below_drewN | apply below_drew1 | refine below_set ?_ GE139.out) | exact HB.out)))); (case aL => have := LMc13.out; omega); intro v142 w17 ho hb hg hat; rw [← Ny141.out] at ho; have n0_ := Aside0.mk (blk_grown (g := gb139) (o := .cells #[.bool ((rd_T35 l1 x12_1).f0), .string ((rd_T35 l1 x12_1).f1), .int .i64 ((rd_T35 l1 x12_1).f2)] 35 (0, 0)) (by (with_reducible repeat (first | refine blk_drewN ?_ _ | refine blk_drew ?_ | refine blk_alloc ?_ _)); refine blk_put (cs := #[.bool ((rd_T35 l1 x12_1).f0), .string ((rd_T35 l1 x12_1).f1), .int .i64 0]) ?_ 2 _ rfl; (with_reducible repeat (first | refine blk_drewN ?_ _ | refine blk_drew ?_ | refine blk_alloc ?_ _)); refine blk_put (cs := #[.bool ((rd_T35 l1 x12_1).f0), .string (⟨#[]⟩ : ByteArray), .int .i64 0]) ?_ 1 _ rfl; (with_reducible repeat (first | refine blk_drewN ?_ _ | refine blk_drew ?_ | refine blk_alloc ?_ _)); refine blk_put (cs := #[.bool false, .string (⟨#[]⟩ : ByteArray), .int .i64 0]) ?_ 0 _ rfl; (with_reducible repeat (first | refine blk_drewN ?_ _ | refine blk_drew ?_ | refine blk_alloc ?_ _)); exact BK139.out) hg (Kd.R_ne HO_5.out BK139.out (by decide))); have n1_ := Aside0.mk (hb); have n2_ := Aside0.mk (ho); clear BK139; clear HB; clear HO_5; have BK139 := n0_; have HB := n1_; have HO143 := n2_; clear n0_ n1_ n2_; clear ho hb hg hat))
        go_roundg k1
        case measure => have := HK1.out; omega
        case rel => exact ⟨(y141), (wrap64 (x12_1 + 1)), (by first | rfl | (simp; done) | (simp [*]; done)), H', ⟨by have := HK1.out; omega⟩, ⟨by (with_reducible repeat (first | apply Kd.R_alloc | apply Kd.R_drewN | apply Kd.R_drew)); exact HO143.out⟩, ⟨by repeat (first | (with_reducible first | exact HB.out | apply below_alloc | apply pw_below_drewN | apply below_drew1 | refine below_set ?_ GE139.out) | exact HB.out)⟩⟩
       ·
        rw [if_neg c13] at H
        exact absurd H (by simp)
     ·
      rw [if_neg c7] at H
      exact absurd H (by simp)
    ·
     rw [if_neg c6] at H
     exact absurd H (by simp)
   ·
    rw [if_neg c5] at H
    have c5b0 : decide (x12_1 < (l1.length : Int)) = false := decide_eq_false c5
    clear c5
    obtain rfl := Option.some.inj H
    go_wp2
    go_ret
    exact ⟨_, by first | rfl | (simp [errW_none, errW_some] <;> rfl) | (simp [*, errW_none, errW_some] <;> rfl), by (with_reducible repeat (first | apply Kd.R_alloc | apply Kd.R_drewN | apply Kd.R_drew)); exact HO_5.out, by repeat (first | (with_reducible first | exact HB.out | apply below_alloc | apply pw_below_drewN | apply below_drew1) | exact HB.out)⟩
end Go.Proofs.Ytinkbljjpafadaa.PAll
end

section
namespace Go.Proofs.Ytinkbljjpafadaa.PAll
open Go.RowKit Go.Proofs.YtinkbljjpafadaaW.PrintWords Go.Proofs.YtinkbljjpafadaaW.PrintLast Go.Proofs.YtinkbljjpafadaaW.PrintMore
attribute [local go_sem] max2_int min2_int max_two min_two max_three min_three max_four min_four   -- for this text's walks alone
set_option linter.unusedVariables false
set_option linter.unusedSimpArgs false
def coerce_Shows.lists (k : Nat) (l0 : List (S64)) : List ByteArray → Option (List (List (S33)))
 | [] => some []
 | c :: r => (table_Members.f k l0 c).bind fun x => (coerce_Shows.lists k l0 r).bind fun xs => some (x :: xs)
def coerce_Shows.fits (cs : List ByteArray) (ls : List (List (S33))) (ms : List (S33)) : Bool := decide (cs.length < 2199023255552) && ls.all (fun x => decide (x.length < 2199023255552)) && decide (ms.length < 2199023255552)
open Go.Proofs.YtinkbljjpafadaaTab in
def coerce_Shows.f (k : Nat) (l0 : List (S64)) (a1_0 a1_1 a1_2 : Int) (a1_3 : ByteArray) (l1_4 : List (S35)) : Option (List (S33)) :=
 if a1_0 = 7 then (chain_Classes.f k a1_3 l1_4).bind fun cs => (coerce_Shows.lists k l0 cs).bind fun ls => (table_Members.f k l0 a1_3).bind fun ms => if coerce_Shows.fits cs ls ms = true then some (shownL ms ls) else none else some []
theorem coerce_Shows.lists_mono (k : Nat) (l0 : List (S64)) : ∀ cs, LeO (coerce_Shows.lists k l0 cs) (coerce_Shows.lists (k + 1) l0 cs)
 | [] => LeO.refl _
 | c :: r => LeO.bind (table_Members.mono l0 c k) (fun _ => LeO.bind (coerce_Shows.lists_mono k l0 r) (fun _ => LeO.refl _))
theorem coerce_Shows.mono : ∀ l0 a1_0 a1_1 a1_2 a1_3 l1_4 k, LeO (coerce_Shows.f k l0 a1_0 a1_1 a1_2 a1_3 l1_4) (coerce_Shows.f (k + 1) l0 a1_0 a1_1 a1_2 a1_3 l1_4) := by
 intro l0 a1_0 a1_1 a1_2 a1_3 l1_4 k
 unfold coerce_Shows.f
 exact LeO.ite (LeO.bind (chain_Classes.mono a1_3 l1_4 k) (fun cs => LeO.bind (coerce_Shows.lists_mono k l0 cs) (fun ls => LeO.bind (table_Members.mono l0 a1_3 k) (fun ms => LeO.refl _)))) (LeO.refl _)
theorem coerce_Shows.lists_at (k : Nat) (l0 : List (S64)) : ∀ (cs : List ByteArray) (ls : List (List (S33))), coerce_Shows.lists k l0 cs = some ls → ls.length = cs.length ∧ ∀ i : Nat, i < cs.length → table_Members.f k l0 (rdOf ByteArray.empty cs (i : Int)) = some (ls.getD i [])
 | [], ls, h => by
  obtain rfl := Option.some.inj h
  exact ⟨rfl, fun i hi => absurd hi (by simp)⟩
 | c :: r, ls, h => by
  unfold coerce_Shows.lists at h
  obtain ⟨x, hx, h⟩ := Option.bind_eq_some_iff.1 h
  obtain ⟨xs, hxs, h⟩ := Option.bind_eq_some_iff.1 h
  obtain rfl := Option.some.inj h
  obtain ⟨h1, h2⟩ := coerce_Shows.lists_at k l0 r xs hxs
  refine ⟨by simp [h1], fun i hi => ?_⟩
  cases i with
  | zero => exact hx
  | succ n =>
   have h3 := h2 n (by simpa using hi)
   unfold rdOf at h3 ⊢
   rw [Int.toNat_natCast] at h3 ⊢
   exact h3
open Go.Proofs.YtinkbljjpafadaaTab in
set_option maxHeartbeats 1000000 in
set_option maxRecDepth 100000 in
theorem coerce_Shows.calls (k : Nat) (A0 : Option Addr) (c0 : Nat) (l0 : List (S64)) (a1_0 a1_1 a1_2 : Int) (a1_3 : ByteArray) (A1_4 : Option Addr) (c1_4 : Nat) (l1_4 : List (S35)) (r : List (S33)) (w : World) (hr0 : Kd.C k64 w A0 l0.length l0) (hc0 : l0.length ≤ c0) (hr1_4 : Kd.C k35 w A1_4 l1_4.length l1_4) (hc1_4 : l1_4.length ≤ c1_4) (h : coerce_Shows.f k l0 a1_0 a1_1 a1_2 a1_3 l1_4 = some r) :
  Calls Try.prog 8 #[.slice A0 l0.length c0, .agg #[.int .i64 a1_0, .int .i64 a1_1, .int .u64 a1_2, .string a1_3, .slice A1_4 l1_4.length c1_4]] w fun e w' => ∃ v0_ : Value, e = .returned (v0_) ∧ Kd.R k33 33 w' w.heap.size (fun _ => True) v0_ r ∧ Below w.heap.size w w' := by
 unfold coerce_Shows.f at h
 by_cases h7 : a1_0 = 7
 ·
  rw [if_pos h7] at h
  obtain ⟨cs, hcs, h⟩ := Option.bind_eq_some_iff.1 h
  obtain ⟨ls, hls, h⟩ := Option.bind_eq_some_iff.1 h
  obtain ⟨ms, hms, h⟩ := Option.bind_eq_some_iff.1 h
  by_cases hf : coerce_Shows.fits cs ls ms = true
  ·
   rw [if_pos hf] at h
   obtain rfl := Option.some.inj h
   unfold coerce_Shows.fits at hf
   simp only [Bool.and_eq_true, decide_eq_true_eq, List.all_eq_true] at hf
   obtain ⟨hll, hat⟩ := coerce_Shows.lists_at k l0 cs ls hls
   subst h7
   exact Shows_calls A0 c0 l0 a1_1 a1_2 a1_3 A1_4 c1_4 l1_4 cs ls ms w
    (fun w' hb => chain_Classes.calls k a1_3 A1_4 c1_4 l1_4 cs w' (Kd.C_below hr1_4 hb) hc1_4 hcs)
    (fun i hi w' hb => table_Members.calls k A0 c0 l0 _ _ w' (Kd.C_below hr0 hb) hc0 (hat i hi))
    (fun w' hb => table_Members.calls k A0 c0 l0 _ _ w' (Kd.C_below hr0 hb) hc0 hms)
    hll hf.1.1 hf.1.2 hf.2
  ·
   rw [if_neg hf] at h; cases h
 ·
  rw [if_neg h7] at h
  obtain rfl := Option.some.inj h
  have hu27 := Try.underlying27
  have hq : (a1_0 == 7) = false := by simpa using h7
  have hd : decide (a1_0 = 7) = false := decide_eq_false h7
  have HC := Aside0.mk h7
  clear hr0 hr1_4 hc0 hc1_4 h7
  go_enter Try.func8, Try.ntmps8
  go_wp2_with fail
  go_ret
  exact ⟨_, rfl, Kd.R_nil _ _ _ _ _, (Below.refl _ _).alloc (Nat.le_refl _) _⟩
end Go.Proofs.Ytinkbljjpafadaa.PAll
end

section
namespace Go.Proofs.Ytinkbljjpafadaa.PAll
open Go.RowKit Go.Proofs.YtinkbljjpafadaaW.PrintWords Go.Proofs.YtinkbljjpafadaaW.PrintLast Go.Proofs.YtinkbljjpafadaaW.PrintMore
attribute [local go_sem] max2_int min2_int max_two min_two max_three min_three max_four min_four   -- for this text's walks alone
set_option linter.unusedVariables false
set_option linter.unusedSimpArgs false
def chaperonlaw16_obj.f (a0 : ByteArray) (l1 : List (S35)) : Option (Int × Int × Int × ByteArray × (List (S35))) := some (7, 1, 0, a0, l1)
set_option maxHeartbeats 8000000 in
set_option maxRecDepth 100000 in
theorem chaperonlaw16_obj.calls (a0 : ByteArray) (P1_ : Nat → Prop) (u9000_ : Value) (l1 : List (S35)) (r1 : Int) (r2 : Int) (r3 : Int) (r4 : ByteArray) (r5 : List (S35)) (w0 w : World) (hB : Below w0.heap.size w0 w) (ho1 : Kd.R k35 35 w w0.heap.size P1_ u9000_ l1) (h : chaperonlaw16_obj.f a0 l1 = some (r1, r2, r3, r4, r5)) :
  Calls Try.prog 9 #[.string a0, u9000_] w fun e w' => ∃ v4_ : Value, e = .returned (.agg #[.int .i64 r1, .int .i64 r2, .int .u64 r3, .string r4, v4_]) ∧ Kd.R k35 35 w' w0.heap.size (fun k_ => (P1_ k_ ∨ w.heap.size ≤ k_)) v4_ r5 ∧ Below w0.heap.size w0 w' ∧ Kept w w' (fun k_ => P1_ k_) := by
 have hu27 := Try.underlying27
 have HO1 := Aside0.mk (show Kd.R k35 35 w w0.heap.size (fun k_ => (P1_ k_ ∨ w.heap.size ≤ k_)) u9000_ l1 from Kd.R_mono ho1 (fun k_ hk => (.inl hk)))
 have HK := Aside0.mk (Kept.refl w (fun k_ => P1_ k_))
 have HW0 := Aside0.mk hB.size
 have HB := Aside0.mk hB
 clear hB
 have H : (some (7, 1, 0, a0, l1)) = some (r1, r2, r3, r4, r5) := h
 clear h
 simp only [Option.some.injEq, Prod.mk.injEq] at H
 obtain ⟨rfl, rfl, rfl, rfl, rfl⟩ := H
 go_enter Try.func9, Try.ntmps9
 go_wp2_with (first | ((with_reducible refine gate_dst (N := 4) rfl ?_); refine box_event ?hg (N := 4) ?hd (cs := #[.int .i64 0, .int .i64 0, .int .u64 0, .string (⟨#[]⟩ : ByteArray), .slice none 0 0]) (t := 27) ?hr ?_; (case hd => rfl); (case hg => rfl); (case hr => first | (go_simp; done) | (go_simp; rfl)); intro gb144 hg w3 hbox hb; have n0_ := Aside0.mk (Kd.R_below (by (with_reducible repeat (first | apply Kd.R_alloc | apply Kd.R_drewN | apply Kd.R_drew)); exact HO1.out) hb); have n1_ := Aside0.mk (Kept.below (S := (fun k_ => P1_ k_)) (by repeat (first | (with_reducible first | exact HK.out | apply Kept.alloc | apply Kept.drewN | apply Kept.drew) | exact HK.out)) hb); have n2_ := Aside0.mk (below_step (by repeat (first | (with_reducible first | exact HB.out | apply below_alloc | apply pw_below_drewN | apply below_drew1) | exact HB.out)) hb); have n3_ := Aside0.mk (hbox); have n4_ := Aside0.mk ((by rw [hg]; exact (by first | exact HK.out.1 | exact (show Kept w _ (fun k_ => P1_ k_) from by repeat (first | (with_reducible first | exact HK.out | apply Kept.alloc | apply Kept.drewN | apply Kept.drew) | exact HK.out)).1) : w.heap.size ≤ gb144)); have n5_ := Aside0.mk ((by rw [hg]; exact (below_size (by repeat (first | (with_reducible first | exact HB.out | apply below_alloc | apply pw_below_drewN | apply below_drew1) | exact HB.out))) : w0.heap.size ≤ gb144)); clear HO1; clear HK; clear HB; have HO1 := n0_; have HK := n1_; have HB := n2_; have BK144 := n3_; have GW144 := n4_; have GE144 := n5_; clear n0_ n1_ n2_ n3_ n4_ n5_; clear hb hbox hg; obtain ⟨Ao4, co4, eo4⟩ := Kd.R_slice HO1.out; subst eo4; have hcz5_0 : w3.cell? ⟨gb144, 0, none⟩ = some (.int .i64 0) := (blk_cell BK144.out 0).trans rfl; have hcz5_1 : w3.cell? ⟨gb144, 1, none⟩ = some (.int .i64 0) := (blk_cell BK144.out 1).trans rfl; have hcz5_2 : w3.cell? ⟨gb144, 2, none⟩ = some (.int .u64 0) := (blk_cell BK144.out 2).trans rfl; have hcz5_3 : w3.cell? ⟨gb144, 3, none⟩ = some (.string (⟨#[]⟩ : ByteArray)) := (blk_cell BK144.out 3).trans rfl; have hcz5_4 : w3.cell? ⟨gb144, 4, none⟩ = some (.slice none 0 0) := (blk_cell BK144.out 4).trans rfl; have hfz5_0 := blk_frozen BK144.out 0; have hfz5_1 := blk_frozen BK144.out 1; have hfz5_2 := blk_frozen BK144.out 2; have hfz5_3 := blk_frozen BK144.out 3; have hfz5_4 := blk_frozen BK144.out 4))
 refine bodyPost_ret (results_cell_row rfl _ _ gb144 27 #[.int .i64 7, .int .i64 1, .int .u64 0, .string a0, .slice Ao4 l1.length co4] (0, 0) _ rfl (by (with_reducible repeat (first | refine blk_drewN ?_ _ | refine blk_drew ?_ | refine blk_alloc ?_ _)); refine blk_put (cs := #[.int .i64 7, .int .i64 1, .int .u64 0, .string a0, .slice none 0 0]) ?_ 4 _ rfl; (with_reducible repeat (first | refine blk_drewN ?_ _ | refine blk_drew ?_ | refine blk_alloc ?_ _)); refine blk_put (cs := #[.int .i64 7, .int .i64 1, .int .u64 0, .string (⟨#[]⟩ : ByteArray), .slice none 0 0]) ?_ 3 _ rfl; (with_reducible repeat (first | refine blk_drewN ?_ _ | refine blk_drew ?_ | refine blk_alloc ?_ _)); refine blk_put (cs := #[.int .i64 7, .int .i64 1, .int .u64 0, .string (⟨#[]⟩ : ByteArray), .slice none 0 0]) ?_ 2 _ rfl; (with_reducible repeat (first | refine blk_drewN ?_ _ | refine blk_drew ?_ | refine blk_alloc ?_ _)); refine blk_put (cs := #[.int .i64 7, .int .i64 0, .int .u64 0, .string (⟨#[]⟩ : ByteArray), .slice none 0 0]) ?_ 1 _ rfl; (with_reducible repeat (first | refine blk_drewN ?_ _ | refine blk_drew ?_ | refine blk_alloc ?_ _)); refine blk_put (cs := #[.int .i64 0, .int .i64 0, .int .u64 0, .string (⟨#[]⟩ : ByteArray), .slice none 0 0]) ?_ 0 _ rfl; (with_reducible repeat (first | refine blk_drewN ?_ _ | refine blk_drew ?_ | refine blk_alloc ?_ _)); exact BK144.out) Try.underlying27 rfl (by kernel_rfl)) rfl ?_
 exact ⟨_, by first | rfl | (simp [errW_none, errW_some] <;> rfl) | (simp [*, errW_none, errW_some] <;> rfl), by (with_reducible repeat (first | apply Kd.R_alloc | apply Kd.R_drewN | apply Kd.R_drew)); exact Kd.R_mono (Kd.R_far (p := ⟨gb144, 4, none⟩) (Kd.R_far (p := ⟨gb144, 3, none⟩) (Kd.R_far (p := ⟨gb144, 2, none⟩) (Kd.R_far (p := ⟨gb144, 1, none⟩) (Kd.R_far (p := ⟨gb144, 0, none⟩) (Kd.R_types HO1.out BK144.out (by decide)) (fun _ hk => hk.2) (.int .i64 7)) (fun _ hk => hk.2) (.int .i64 1)) (fun _ hk => hk.2) (.int .u64 0)) (fun _ hk => hk.2) (.string a0)) (fun _ hk => hk.2) (.slice Ao4 l1.length co4)) (fun _ hk => hk.1), by repeat (first | (with_reducible first | exact HB.out | apply below_alloc | apply pw_below_drewN | apply below_drew1 | refine below_set ?_ GE144.out) | exact HB.out), by repeat (first | (with_reducible first | exact HK.out | apply Kept.alloc | apply Kept.drewN | apply Kept.drew | refine Kept.setCell ?_ (.inr GW144.out) _) | exact HK.out)⟩
def chaperonlaw16_in.f (a0 : ByteArray) (a1 : Int) : Option (Bool × ByteArray × Int) := some (false, a0, a1)
set_option maxHeartbeats 8000000 in
set_option maxRecDepth 100000 in
theorem chaperonlaw16_in.calls (a0 : ByteArray) (a1 : Int) (r1 : Bool) (r2 : ByteArray) (r3 : Int) (w : World) (h : chaperonlaw16_in.f a0 a1 = some (r1, r2, r3)) :
  Calls Try.prog 10 #[.string a0, .int .i64 a1] w fun e w' => e = .returned (.agg #[.bool r1, .string r2, .int .i64 r3]) ∧ Below w.heap.size w w' := by
 have hu35 := Try.underlying35
 have HB := Aside0.mk (Below.refl w.heap.size w)
 have H : (some (false, a0, a1)) = some (r1, r2, r3) := h
 clear h
 simp only [Option.some.injEq, Prod.mk.injEq] at H
 obtain ⟨rfl, rfl, rfl⟩ := H
 go_enter Try.func10, Try.ntmps10
 go_wp2_with (first | ((with_reducible refine gate_dst (N := 4) rfl ?_); refine box_event ?hg (N := 4) ?hd (cs := #[.bool false, .string (⟨#[]⟩ : ByteArray), .int .i64 0]) (t := 35) ?hr ?_; (case hd => rfl); (case hg => rfl); (case hr => first | (go_simp; done) | (go_simp; rfl)); intro gb145 hg w3 hbox hb; have n0_ := Aside0.mk (below_step (by repeat (first | (with_reducible first | exact HB.out | apply below_alloc | apply pw_below_drewN | apply below_drew1) | exact HB.out)) hb); have n1_ := Aside0.mk (hbox); have n2_ := Aside0.mk ((by rw [hg]; exact (below_size (by repeat (first | (with_reducible first | exact HB.out | apply below_alloc | apply pw_below_drewN | apply below_drew1) | exact HB.out))) : w.heap.size ≤ gb145)); have n3_ := Aside0.mk ((by rw [hg]; exact (below_size (by repeat (first | (with_reducible first | exact HB.out | apply below_alloc | apply pw_below_drewN | apply below_drew1) | exact HB.out))) : w.heap.size ≤ gb145)); clear HB; have HB := n0_; have BK145 := n1_; have GW145 := n2_; have GE145 := n3_; clear n0_ n1_ n2_ n3_; clear hb hbox hg; have hcz4_0 : w3.cell? ⟨gb145, 0, none⟩ = some (.bool false) := (blk_cell BK145.out 0).trans rfl; have hcz4_1 : w3.cell? ⟨gb145, 1, none⟩ = some (.string (⟨#[]⟩ : ByteArray)) := (blk_cell BK145.out 1).trans rfl; have hcz4_2 : w3.cell? ⟨gb145, 2, none⟩ = some (.int .i64 0) := (blk_cell BK145.out 2).trans rfl; have hfz4_0 := blk_frozen BK145.out 0; have hfz4_1 := blk_frozen BK145.out 1; have hfz4_2 := blk_frozen BK145.out 2))
 refine bodyPost_ret (results_cell_row rfl _ _ gb145 35 #[.bool false, .string a0, .int .i64 a1] (0, 0) _ rfl (by (with_reducible repeat (first | refine blk_drewN ?_ _ | refine blk_drew ?_ | refine blk_alloc ?_ _)); refine blk_put (cs := #[.bool false, .string a0, .int .i64 0]) ?_ 2 _ rfl; (with_reducible repeat (first | refine blk_drewN ?_ _ | refine blk_drew ?_ | refine blk_alloc ?_ _)); refine blk_put (cs := #[.bool false, .string (⟨#[]⟩ : ByteArray), .int .i64 0]) ?_ 1 _ rfl; (with_reducible repeat (first | refine blk_drewN ?_ _ | refine blk_drew ?_ | refine blk_alloc ?_ _)); refine blk_put (cs := #[.bool false, .string (⟨#[]⟩ : ByteArray), .int .i64 0]) ?_ 0 _ rfl; (with_reducible repeat (first | refine blk_drewN ?_ _ | refine blk_drew ?_ | refine blk_alloc ?_ _)); exact BK145.out) Try.underlying35 rfl (by kernel_rfl)) rfl ?_
 exact ⟨by first | rfl | (simp [errW_none, errW_some] <;> rfl) | (simp [*, errW_none, errW_some] <;> rfl), by repeat (first | (with_reducible first | exact HB.out | apply below_alloc | apply pw_below_drewN | apply below_drew1 | refine below_set ?_ GE145.out) | exact HB.out)⟩
def chaperonlaw16_three.f  : Option (Int × Int × Int × ByteArray × (List (S35))) := some (1, 3, 0, (⟨#[]⟩ : ByteArray), ([] : List (S35)))
set_option maxHeartbeats 8000000 in
set_option maxRecDepth 100000 in
theorem chaperonlaw16_three.calls  (r1 : Int) (r2 : Int) (r3 : Int) (r4 : ByteArray) (r5 : List (S35)) (w : World) (h : chaperonlaw16_three.f  = some (r1, r2, r3, r4, r5)) :
  Calls Try.prog 11 #[] w fun e w' => ∃ v4_ : Value, e = .returned (.agg #[.int .i64 r1, .int .i64 r2, .int .u64 r3, .string r4, v4_]) ∧ Kd.R k35 35 w' w.heap.size (fun _ => True) v4_ r5 ∧ Below w.heap.size w w' := by
 have hu27 := Try.underlying27
 have HB := Aside0.mk (Below.refl w.heap.size w)
 have H : (some (1, 3, 0, (⟨#[]⟩ : ByteArray), ([] : List (S35)))) = some (r1, r2, r3, r4, r5) := h
 clear h
 simp only [Option.some.injEq, Prod.mk.injEq] at H
 obtain ⟨rfl, rfl, rfl, rfl, rfl⟩ := H
 go_enter Try.func11, Try.ntmps11
 go_wp2_with (first | ((with_reducible refine gate_dst (N := 0) rfl ?_); refine box_event ?hg (N := 0) ?hd (cs := #[.int .i64 0, .int .i64 0, .int .u64 0, .string (⟨#[]⟩ : ByteArray), .slice none 0 0]) (t := 27) ?hr ?_; (case hd => rfl); (case hg => rfl); (case hr => first | (go_simp; done) | (go_simp; rfl)); intro gb146 hg w1 hbox hb; have n0_ := Aside0.mk (below_step (by repeat (first | (with_reducible first | exact HB.out | apply below_alloc | apply pw_below_drewN | apply below_drew1) | exact HB.out)) hb); have n1_ := Aside0.mk (hbox); have n2_ := Aside0.mk ((by rw [hg]; exact (below_size (by repeat (first | (with_reducible first | exact HB.out | apply below_alloc | apply pw_below_drewN | apply below_drew1) | exact HB.out))) : w.heap.size ≤ gb146)); have n3_ := Aside0.mk ((by rw [hg]; exact (below_size (by repeat (first | (with_reducible first | exact HB.out | apply below_alloc | apply pw_below_drewN | apply below_drew1) | exact HB.out))) : w.heap.size ≤ gb146)); clear HB; have HB := n0_; have BK146 := n1_; have GW146 := n2_; have GE146 := n3_; clear n0_ n1_ n2_ n3_; clear hb hbox hg; have hcz2_0 : w1.cell? ⟨gb146, 0, none⟩ = some (.int .i64 0) := (blk_cell BK146.out 0).trans rfl; have hcz2_1 : w1.cell? ⟨gb146, 1, none⟩ = some (.int .i64 0) := (blk_cell BK146.out 1).trans rfl; have hcz2_2 : w1.cell? ⟨gb146, 2, none⟩ = some (.int .u64 0) := (blk_cell BK146.out 2).trans rfl; have hcz2_3 : w1.cell? ⟨gb146, 3, none⟩ = some (.string (⟨#[]⟩ : ByteArray)) := (blk_cell BK146.out 3).trans rfl; have hcz2_4 : w1.cell? ⟨gb146, 4, none⟩ = some (.slice none 0 0) := (blk_cell BK146.out 4).trans rfl; have hfz2_0 := blk_frozen BK146.out 0; have hfz2_1 := blk_frozen BK146.out 1; have hfz2_2 := blk_frozen BK146.out 2; have hfz2_3 := blk_frozen BK146.out 3; have hfz2_4 := blk_frozen BK146.out 4))
 refine bodyPost_ret (results_cell_row rfl _ _ gb146 27 #[.int .i64 1, .int .i64 3, .int .u64 0, .string (⟨#[]⟩ : ByteArray), .slice none 0 0] (0, 0) _ rfl (by (with_reducible repeat (first | refine blk_drewN ?_ _ | refine blk_drew ?_ | refine blk_alloc ?_ _)); refine blk_put (cs := #[.int .i64 1, .int .i64 3, .int .u64 0, .string (⟨#[]⟩ : ByteArray), .slice none 0 0]) ?_ 4 _ rfl; (with_reducible repeat (first | refine blk_drewN ?_ _ | refine blk_drew ?_ | refine blk_alloc ?_ _)); refine blk_put (cs := #[.int .i64 1, .int .i64 3, .int .u64 0, .string (⟨#[]⟩ : ByteArray), .slice none 0 0]) ?_ 3 _ rfl; (with_reducible repeat (first | refine blk_drewN ?_ _ | refine blk_drew ?_ | refine blk_alloc ?_ _)); refine blk_put (cs := #[.int .i64 1, .int .i64 3, .int .u64 0, .string (⟨#[]⟩ : ByteArray), .slice none 0 0]) ?_ 2 _ rfl; (with_reducible repeat (first | refine blk_drewN ?_ _ | refine blk_drew ?_ | refine blk_alloc ?_ _)); refine blk_put (cs := #[.int .i64 1, .int .i64 0, .int .u64 0, .string (⟨#[]⟩ : ByteArray), .slice none 0 0]) ?_ 1 _ rfl; (with_reducible repeat (first | refine blk_drewN ?_ _ | refine blk_drew ?_ | refine blk_alloc ?_ _)); refine blk_put (cs := #[.int .i64 0, .int .i64 0, .int .u64 0, .string (⟨#[]⟩ : ByteArray), .slice none 0 0]) ?_ 0 _ rfl; (with_reducible repeat (first | refine blk_drewN ?_ _ | refine blk_drew ?_ | refine blk_alloc ?_ _)); exact BK146.out) Try.underlying27 rfl (by kernel_rfl)) rfl ?_
 exact ⟨_, by first | rfl | (simp [errW_none, errW_some] <;> rfl) | (simp [*, errW_none, errW_some] <;> rfl), by first | exact Kd.R_nil _ _ _ _ _ | exact Kd.N_nil _ _ _ _ _ | exact Kd.V_nil _ _ _ _ _ | exact Kd.Q_nil _ _ _ _ _ | exact Kd.S_nil _ _ _ _ _, by repeat (first | (with_reducible first | exact HB.out | apply below_alloc | apply pw_below_drewN | apply below_drew1 | refine below_set ?_ GE146.out) | exact HB.out)⟩
end Go.Proofs.Ytinkbljjpafadaa.PAll
end

section
namespace Go.Proofs.Ytinkbljjpafadaa.PAll
open Go.RowKit Go.Proofs.YtinkbljjpafadaaW.PrintWords Go.Proofs.YtinkbljjpafadaaW.PrintLast Go.Proofs.YtinkbljjpafadaaW.PrintMore
attribute [local go_sem] max2_int min2_int max_two min_two max_three min_three max_four min_four   -- for this text's walks alone
set_option linter.unusedVariables false
set_option linter.unusedSimpArgs false
theorem eqA35 (d : Nat) (w : World) (x0 y0 : Bool) (x1 y1 : ByteArray) (x2 y2 : Int) :
  (Op.equalIn (d + 2) 35 (.agg #[.bool x0, .string x1, .int .i64 x2]) (.agg #[.bool y0, .string y1, .int .i64 y2])).run Try.prog w = .ok (x0 == y0 && (x1.toList == y1.toList && (x2 == y2))) w := by
 refine eqA_of Try.underlying35 (by kernel_rfl) ?_
 refine eqf_cons (by rfl) (by go_simp; rfl) (by go_simp; rfl) (by go_simp) ?_
 refine eqf_cons (by rfl) (by go_simp; rfl) (by go_simp; rfl) (by go_simp) ?_
 exact eqf_last (by rfl) (by go_simp; rfl) (by go_simp; rfl) (by go_simp)
end Go.Proofs.Ytinkbljjpafadaa.PAll
end

section
namespace Go.Proofs.Ytinkbljjpafadaa.PAll
open Go.RowKit Go.Proofs.YtinkbljjpafadaaW.PrintWords Go.Proofs.YtinkbljjpafadaaW.PrintLast Go.Proofs.YtinkbljjpafadaaW.PrintMore
attribute [local go_sem] max2_int min2_int max_two min_two max_three min_three max_four min_four   -- for this text's walks alone
set_option linter.unusedVariables false
set_option linter.unusedSimpArgs false
attribute [local go_sem high] eqA35
def chaperonkit_SameLayers.l0 : Nat → List (S35) → List (S35) → Int → Option (Bool)
 | 0, _, _, _ => none
 | k + 1, x0, x1, x5 => if x5 < (x0.length : Int) then (if 0 ≤ x5 then (if x5 < (x1.length : Int) then (if (!(((rd_T35 x0 x5).f0) == ((rd_T35 x1 x5).f0)) || (!((((rd_T35 x0 x5).f1).toList) == (((rd_T35 x1 x5).f1).toList)) || (!(((rd_T35 x0 x5).f2) == ((rd_T35 x1 x5).f2))))) = true then (some false) else (chaperonkit_SameLayers.l0 k x0 x1 (wrap64 (x5 + 1)))) else (none)) else (none)) else (some true)
def chaperonkit_SameLayers.f (k : Nat) (l0 : List (S35)) (l1 : List (S35)) : Option (Bool) := if (l0.length : Int) = (l1.length : Int) then (chaperonkit_SameLayers.l0 k l0 l1 0) else (some false)
theorem chaperonkit_SameLayers.mono_l : ∀ k, (∀ y0 y1 y2, LeO (chaperonkit_SameLayers.l0 k y0 y1 y2) (chaperonkit_SameLayers.l0 (k + 1) y0 y1 y2))
 | 0 => fun _ _ _ r h => by simp [chaperonkit_SameLayers.l0] at h
 | k + 1 => by
  have ih0 := chaperonkit_SameLayers.mono_l k
  ·
   intro y0 y1 y2
   unfold chaperonkit_SameLayers.l0
   repeat' first
   | (with_reducible exact ih0 _ _ _)
   | (with_reducible exact LeO.refl _)
   | (with_reducible exact LeO.none _)
   | (with_reducible refine LeO.ite ?_ ?_)
   | (with_reducible refine LeO.bind ?_ (fun _ => ?_))
   | exact ih0 _ _ _
   | exact LeO.none _
   | refine LeO.ite ?_ ?_
   | refine LeO.bind ?_ (fun _ => ?_)
theorem chaperonkit_SameLayers.mono : ∀ a0 a1 k, LeO (chaperonkit_SameLayers.f k a0 a1) (chaperonkit_SameLayers.f (k + 1) a0 a1) := by
 intro a0 a1 k
 have ih0 := chaperonkit_SameLayers.mono_l k
 unfold chaperonkit_SameLayers.f
 repeat' first
   | (with_reducible exact ih0 _ _ _)
   | (with_reducible exact LeO.refl _)
   | (with_reducible exact LeO.none _)
   | (with_reducible refine LeO.ite ?_ ?_)
   | (with_reducible refine LeO.bind ?_ (fun _ => ?_))
   | exact ih0 _ _ _
   | exact LeO.none _
   | refine LeO.ite ?_ ?_
   | refine LeO.bind ?_ (fun _ => ?_)
set_option maxHeartbeats 8000000 in
set_option maxRecDepth 100000 in
theorem chaperonkit_SameLayers.calls (k : Nat) (A0 : Option Addr) (c0 : Nat) (l0 : List (S35)) (A1 : Option Addr) (c1 : Nat) (l1 : List (S35)) (r : Bool) (w : World) (hr0 : Kd.C k35 w A0 l0.length l0) (hc0 : l0.length ≤ c0) (hr1 : Kd.C k35 w A1 l1.length l1) (hc1 : l1.length ≤ c1) (h : chaperonkit_SameLayers.f k l0 l1 = some r) :
  Calls Try.prog 35 #[.slice A0 l0.length c0, .slice A1 l1.length c1] w fun e w' => e = .returned (.bool r) ∧ Drawn0 w w' := by
 have hu35 := Try.underlying35
 have HR0 := Aside0.mk hr0
 have HC0 := Aside0.mk hc0
 clear hr0 hc0
 have HR1 := Aside0.mk hr1
 have HC1 := Aside0.mk hc1
 clear hr1 hc1
 have H : (if (l0.length : Int) = (l1.length : Int) then (chaperonkit_SameLayers.l0 k l0 l1 0) else (some false)) = some r := h
 clear h
 by_cases c3 : (l0.length : Int) = (l1.length : Int)
 ·
  rw [if_pos c3] at H
  have c3b0 : ((l0.length : Int) == (l1.length : Int)) = true := beq_iff_eq.mpr c3
  have c3b1 : ((l0.length : Int) != (l1.length : Int)) = false := bne_eq_false_iff_eq.mpr c3
  have c3b2 : (l0.length == l1.length) = true := by first | simpa using c3 | (simp at c3 ⊢; omega)
  clear c3
  have H' := Aside0.mk H
  clear H
  go_enter Try.func35, Try.ntmps35
  go_wp2
  repeat (go_quiet (fail); try go_wp2)
  go_loopg [5] k (fun kq v5 w' => ∃ (x5_1 : Int), v5 = .int .i64 x5_1 ∧ Aside0 (chaperonkit_SameLayers.l0 kq l0 l1 x5_1 = some r) ∧ Aside0 (kq ≤ k) ∧ Drawn0 w w')
  case atStart => exact ⟨(0), (by first | rfl | (simp; done) | (simp [*]; done)), H', ⟨Nat.le_refl _⟩, by repeat (first | exact Drawn0.refl _ | apply Drawn0.step)⟩
  case round =>
   clear H'
   try clear c1
   try clear p2
   try clear c3
   try clear c3b0
   try clear c3b1
   try clear c3b2
   obtain ⟨x5_1, rfl, HA, HK1, ⟨m1, rfl⟩⟩ := hrel
   cases gk with
   | zero => exact absurd HA.out (by simp [chaperonkit_SameLayers.l0])
   | succ k1 =>
    have H := HA.out
    clear HA
    simp only [chaperonkit_SameLayers.l0] at H
    by_cases c4 : x5_1 < (l0.length : Int)
    ·
     rw [if_pos c4] at H
     have c4b0 : decide (x5_1 < (l0.length : Int)) = true := decide_eq_true c4
     clear c4
     by_cases c5 : 0 ≤ x5_1
     ·
      rw [if_pos c5] at H
      have c5b0 : decide (0 ≤ x5_1) = true := decide_eq_true c5
      clear c5
      by_cases c6 : x5_1 < (l1.length : Int)
      ·
       rw [if_pos c6] at H
       have c6b0 : decide (x5_1 < (l1.length : Int)) = true := decide_eq_true c6
       clear c6
       by_cases c7 : (!(((rd_T35 l0 x5_1).f0) == ((rd_T35 l1 x5_1).f0)) || (!((((rd_T35 l0 x5_1).f1).toList) == (((rd_T35 l1 x5_1).f1).toList)) || (!(((rd_T35 l0 x5_1).f2) == ((rd_T35 l1 x5_1).f2))))) = true
       ·
        rw [if_pos c7] at H
        have c7b0 : (!(((rd_T35 l0 x5_1).f0) == ((rd_T35 l1 x5_1).f0)) || (!((((rd_T35 l0 x5_1).f1).toList) == (((rd_T35 l1 x5_1).f1).toList)) || (!(((rd_T35 l0 x5_1).f2) == ((rd_T35 l1 x5_1).f2))))) = true := c7
        clear c7
        obtain rfl := Option.some.inj H
        have p147 : 0 ≤ (x5_1 : Int) := of_decide_eq_true (by first | (with_reducible assumption) | assumption)
        have q147 : x5_1 < (l0.length : Int) := of_decide_eq_true (by first | (with_reducible assumption) | assumption)
        obtain ⟨ad147, e147, hx147_0, hx147_1, hx147_2⟩ := at_T35 HR0.out x5_1 p147 q147
        cases e147
        replace p147 := eq_true p147
        replace q147 := eq_true q147
        have p148 : 0 ≤ (x5_1 : Int) := of_decide_eq_true (by first | (with_reducible assumption) | assumption)
        have q148 : x5_1 < (l1.length : Int) := of_decide_eq_true (by first | (with_reducible assumption) | assumption)
        obtain ⟨ad148, e148, hx148_0, hx148_1, hx148_2⟩ := at_T35 HR1.out x5_1 p148 q148
        cases e148
        replace p148 := eq_true p148
        replace q148 := eq_true q148
        go_wp2
        repeat (go_quiet (fail); try go_wp2)
        go_ret
        exact ⟨by first | rfl | (simp; done) | (simp [*]; done), by repeat (first | exact Drawn0.refl _ | apply Drawn0.step)⟩
       ·
        rw [if_neg c7] at H
        have c7b0 : (!(((rd_T35 l0 x5_1).f0) == ((rd_T35 l1 x5_1).f0)) || (!((((rd_T35 l0 x5_1).f1).toList) == (((rd_T35 l1 x5_1).f1).toList)) || (!(((rd_T35 l0 x5_1).f2) == ((rd_T35 l1 x5_1).f2))))) = false := by simpa using c7
        clear c7
        have H' := Aside0.mk H
        clear H
        have p147 : 0 ≤ (x5_1 : Int) := of_decide_eq_true (by first | (with_reducible assumption) | assumption)
        have q147 : x5_1 < (l0.length : Int) := of_decide_eq_true (by first | (with_reducible assumption) | assumption)
        obtain ⟨ad147, e147, hx147_0, hx147_1, hx147_2⟩ := at_T35 HR0.out x5_1 p147 q147
        cases e147
        replace p147 := eq_true p147
        replace q147 := eq_true q147
        have p148 : 0 ≤ (x5_1 : Int) := of_decide_eq_true (by first | (with_reducible assumption) | assumption)
        have q148 : x5_1 < (l1.length : Int) := of_decide_eq_true (by first | (with_reducible assumption) | assumption)
        obtain ⟨ad148, e148, hx148_0, hx148_1, hx148_2⟩ := at_T35 HR1.out x5_1 p148 q148
        cases e148
        replace p148 := eq_true p148
        replace q148 := eq_true q148
        go_wp2
        repeat (go_quiet (fail); try go_wp2)
        go_roundg k1
        case measure => have := HK1.out; omega
        case rel => exact ⟨(wrap64 (x5_1 + 1)), (by first | rfl | (simp; done) | (simp [*]; done)), H', ⟨by have := HK1.out; omega⟩, by repeat (first | exact Drawn0.refl _ | apply Drawn0.step)⟩
      ·
       rw [if_neg c6] at H
       exact absurd H (by simp)
     ·
      rw [if_neg c5] at H
      exact absurd H (by simp)
    ·
     rw [if_neg c4] at H
     have c4b0 : decide (x5_1 < (l0.length : Int)) = false := decide_eq_false c4
     clear c4
     obtain rfl := Option.some.inj H
     go_wp2
     repeat (go_quiet (fail); try go_wp2)
     go_ret
     exact ⟨by first | rfl | (simp; done) | (simp [*]; done), by repeat (first | exact Drawn0.refl _ | apply Drawn0.step)⟩
 ·
  rw [if_neg c3] at H
  have c3b0 : ((l0.length : Int) == (l1.length : Int)) = false := beq_eq_false_iff_ne.mpr c3
  have c3b1 : ((l0.length : Int) != (l1.length : Int)) = true := bne_iff_ne.mpr c3
  have c3b2 : (l0.length == l1.length) = false := by first | simpa using c3 | (simp at c3 ⊢; omega)
  obtain rfl := Option.some.inj H
  go_enter Try.func35, Try.ntmps35
  go_wp2
  repeat (go_quiet (fail); try go_wp2)
  go_ret
  exact ⟨by first | rfl | (simp; done) | (simp [*]; done), by repeat (first | exact Drawn0.refl _ | apply Drawn0.step)⟩
end Go.Proofs.Ytinkbljjpafadaa.PAll
end

section
namespace Go.Proofs.Ytinkbljjpafadaa.PAll
open Go.RowKit Go.Proofs.YtinkbljjpafadaaW.PrintWords Go.Proofs.YtinkbljjpafadaaW.PrintLast Go.Proofs.YtinkbljjpafadaaW.PrintMore
attribute [local go_sem] max2_int min2_int max_two min_two max_three min_three max_four min_four   -- for this text's walks alone
set_option linter.unusedVariables false
set_option linter.unusedSimpArgs false
def chaperonkit_SameValue.f (k : Nat) (a0_0 : Int) (a0_1 : Int) (a0_2 : Int) (a0_3 : ByteArray) (l0_4 : List (S35)) (a1_0 : Int) (a1_1 : Int) (a1_2 : Int) (a1_3 : ByteArray) (l1_4 : List (S35)) : Option (Bool) := if a0_0 = a1_0 then (if a0_1 = a1_1 then (if a0_2 = a1_2 then (if a0_3.toList = a1_3.toList then ((chaperonkit_SameLayers.f k l0_4 l1_4).bind fun t151 => (some t151)) else (some false)) else (some false)) else (some false)) else (some false)
theorem chaperonkit_SameValue.mono : ∀ a0 a1 a2 a3 a4 a5 a6 a7 a8 a9 k, LeO (chaperonkit_SameValue.f k a0 a1 a2 a3 a4 a5 a6 a7 a8 a9) (chaperonkit_SameValue.f (k + 1) a0 a1 a2 a3 a4 a5 a6 a7 a8 a9) := by
 intro a0 a1 a2 a3 a4 a5 a6 a7 a8 a9 k
 unfold chaperonkit_SameValue.f
 repeat' first
   | (with_reducible exact chaperonkit_SameLayers.mono _ _ _)
   | (with_reducible exact LeO.refl _)
   | (with_reducible exact LeO.none _)
   | (with_reducible refine LeO.ite ?_ ?_)
   | (with_reducible refine LeO.bind ?_ (fun _ => ?_))
   | exact chaperonkit_SameLayers.mono _ _ _
   | exact LeO.none _
   | refine LeO.ite ?_ ?_
   | refine LeO.bind ?_ (fun _ => ?_)
set_option maxHeartbeats 8000000 in
set_option maxRecDepth 100000 in
theorem chaperonkit_SameValue.calls (k : Nat) (a0_0 : Int) (a0_1 : Int) (a0_2 : Int) (a0_3 : ByteArray) (A0_4 : Option Addr) (c0_4 : Nat) (l0_4 : List (S35)) (a1_0 : Int) (a1_1 : Int) (a1_2 : Int) (a1_3 : ByteArray) (A1_4 : Option Addr) (c1_4 : Nat) (l1_4 : List (S35)) (r : Bool) (w : World) (hr0_4 : Kd.C k35 w A0_4 l0_4.length l0_4) (hc0_4 : l0_4.length ≤ c0_4) (hr1_4 : Kd.C k35 w A1_4 l1_4.length l1_4) (hc1_4 : l1_4.length ≤ c1_4) (h : chaperonkit_SameValue.f k a0_0 a0_1 a0_2 a0_3 l0_4 a1_0 a1_1 a1_2 a1_3 l1_4 = some r) :
  Calls Try.prog 14 #[.agg #[.int .i64 a0_0, .int .i64 a0_1, .int .u64 a0_2, .string a0_3, .slice A0_4 l0_4.length c0_4], .agg #[.int .i64 a1_0, .int .i64 a1_1, .int .u64 a1_2, .string a1_3, .slice A1_4 l1_4.length c1_4]] w fun e w' => e = .returned (.bool r) ∧ Below w.heap.size w w' := by
 have hu27 := Try.underlying27
 have HR0_4 := Aside0.mk hr0_4
 have HC0_4 := Aside0.mk hc0_4
 clear hr0_4 hc0_4
 have HR1_4 := Aside0.mk hr1_4
 have HC1_4 := Aside0.mk hc1_4
 clear hr1_4 hc1_4
 have HB := Aside0.mk (Below.refl w.heap.size w)
 have H : (if a0_0 = a1_0 then (if a0_1 = a1_1 then (if a0_2 = a1_2 then (if a0_3.toList = a1_3.toList then ((chaperonkit_SameLayers.f k l0_4 l1_4).bind fun t151 => (some t151)) else (some false)) else (some false)) else (some false)) else (some false)) = some r := h
 clear h
 by_cases c3 : a0_0 = a1_0
 ·
  rw [if_pos c3] at H
  have c3b0 : (a0_0 == a1_0) = true := beq_iff_eq.mpr c3
  have c3b1 : (a0_0 != a1_0) = false := bne_eq_false_iff_eq.mpr c3
  clear c3
  by_cases c4 : a0_1 = a1_1
  ·
   rw [if_pos c4] at H
   have c4b0 : (a0_1 == a1_1) = true := beq_iff_eq.mpr c4
   have c4b1 : (a0_1 != a1_1) = false := bne_eq_false_iff_eq.mpr c4
   clear c4
   by_cases c5 : a0_2 = a1_2
   ·
    rw [if_pos c5] at H
    have c5b0 : (a0_2 == a1_2) = true := beq_iff_eq.mpr c5
    have c5b1 : (a0_2 != a1_2) = false := bne_eq_false_iff_eq.mpr c5
    clear c5
    by_cases c6 : a0_3.toList = a1_3.toList
    ·
     rw [if_pos c6] at H
     have c6b0 : (a0_3.toList == a1_3.toList) = true := beq_iff_eq.mpr c6
     have c6b1 : (a0_3.toList != a1_3.toList) = false := bne_eq_false_iff_eq.mpr c6
     clear c6
     replace H := Option.bind_eq_some_iff.mp H
     obtain ⟨t151, A70, H⟩ := H
     replace H : (some t151) = some r := H
     have A7 := Aside0.mk A70
     clear A70
     obtain rfl := Option.some.inj H
     go_enter Try.func14, Try.ntmps14
     go_wp2_with (first | ((with_reducible refine gate_dst (N := 2) rfl ?_); refine box_event ?hg (N := 2) ?hd (cs := #[.int .i64 a0_0, .int .i64 a0_1, .int .u64 a0_2, .string a0_3, .slice A0_4 l0_4.length c0_4]) (t := 27) ?hr ?_; (case hd => rfl); (case hg => rfl); (case hr => first | (go_simp; done) | (go_simp; rfl)); intro gb149 hg w8 hbox hb; have n0_ := Aside0.mk (below_step (by repeat (first | (with_reducible first | exact HB.out | apply below_alloc | apply pw_below_drewN | apply below_drew1) | exact HB.out)) hb); have n1_ := Aside0.mk (hbox); have n2_ := Aside0.mk ((by rw [hg]; exact (below_size (by repeat (first | (with_reducible first | exact HB.out | apply below_alloc | apply pw_below_drewN | apply below_drew1) | exact HB.out))) : w.heap.size ≤ gb149)); have n3_ := Aside0.mk ((by rw [hg]; exact (below_size (by repeat (first | (with_reducible first | exact HB.out | apply below_alloc | apply pw_below_drewN | apply below_drew1) | exact HB.out))) : w.heap.size ≤ gb149)); clear HB; have HB := n0_; have BK149 := n1_; have GW149 := n2_; have GE149 := n3_; clear n0_ n1_ n2_ n3_; clear hb hbox hg) | ((with_reducible refine gate_dst (N := 3) rfl ?_); refine box_event ?hg (N := 3) ?hd (cs := #[.int .i64 a1_0, .int .i64 a1_1, .int .u64 a1_2, .string a1_3, .slice A1_4 l1_4.length c1_4]) (t := 27) ?hr ?_; (case hd => rfl); (case hg => rfl); (case hr => first | (go_simp; done) | (go_simp; rfl)); intro gb150 hg w9 hbox hb; have n0_ := Aside0.mk (blk_below (g := gb149) (o := .cells #[.int .i64 a0_0, .int .i64 a0_1, .int .u64 a0_2, .string a0_3, .slice A0_4 l0_4.length c0_4] 27 (0, 0)) (by (with_reducible repeat (first | refine blk_drewN ?_ _ | refine blk_drew ?_ | refine blk_alloc ?_ _)); exact BK149.out) hb); have n1_ := Aside0.mk (below_step (by repeat (first | (with_reducible first | exact HB.out | apply below_alloc | apply pw_below_drewN | apply below_drew1 | refine below_set ?_ GE149.out) | exact HB.out)) hb); have n2_ := Aside0.mk (hbox); have n3_ := Aside0.mk ((by rw [hg]; exact (below_size (by repeat (first | (with_reducible first | exact HB.out | apply below_alloc | apply pw_below_drewN | apply below_drew1 | refine below_set ?_ GE149.out) | exact HB.out))) : w.heap.size ≤ gb150)); have n4_ := Aside0.mk ((by rw [hg]; exact (below_size (by repeat (first | (with_reducible first | exact HB.out | apply below_alloc | apply pw_below_drewN | apply below_drew1 | refine below_set ?_ GE149.out) | exact HB.out))) : w.heap.size ≤ gb150)); have n5_ := Aside0.mk ((by rw [hg]; exact Nat.ne_of_lt (blk_lt (g := gb149) (o := .cells #[.int .i64 a0_0, .int .i64 a0_1, .int .u64 a0_2, .string a0_3, .slice A0_4 l0_4.length c0_4] 27 (0, 0)) (by (with_reducible repeat (first | refine blk_drewN ?_ _ | refine blk_drew ?_ | refine blk_alloc ?_ _)); exact BK149.out)) : gb149 ≠ gb150)); have n6_ := Aside0.mk ((by rw [hg]; exact Nat.ne_of_gt (blk_lt (g := gb149) (o := .cells #[.int .i64 a0_0, .int .i64 a0_1, .int .u64 a0_2, .string a0_3, .slice A0_4 l0_4.length c0_4] 27 (0, 0)) (by (with_reducible repeat (first | refine blk_drewN ?_ _ | refine blk_drew ?_ | refine blk_alloc ?_ _)); exact BK149.out)) : gb150 ≠ gb149)); clear BK149; clear HB; have BK149 := n0_; have HB := n1_; have BK150 := n2_; have GW150 := n3_; have GE150 := n4_; have NB149_150 := n5_; have NB150_149 := n6_; clear n0_ n1_ n2_ n3_ n4_ n5_ n6_; clear hb hbox hg; have hnb10 := NB149_150.out; have hnc10 := NB150_149.out; have hcz11_0 : w9.cell? ⟨gb149, 0, none⟩ = some (.int .i64 a0_0) := (blk_cell BK149.out 0).trans rfl; have hcz11_1 : w9.cell? ⟨gb149, 1, none⟩ = some (.int .i64 a0_1) := (blk_cell BK149.out 1).trans rfl; have hcz11_2 : w9.cell? ⟨gb149, 2, none⟩ = some (.int .u64 a0_2) := (blk_cell BK149.out 2).trans rfl; have hcz11_3 : w9.cell? ⟨gb149, 3, none⟩ = some (.string a0_3) := (blk_cell BK149.out 3).trans rfl; have hcz11_4 : w9.cell? ⟨gb149, 4, none⟩ = some (.slice A0_4 l0_4.length c0_4) := (blk_cell BK149.out 4).trans rfl; have hfz11_0 := blk_frozen BK149.out 0; have hfz11_1 := blk_frozen BK149.out 1; have hfz11_2 := blk_frozen BK149.out 2; have hfz11_3 := blk_frozen BK149.out 3; have hfz11_4 := blk_frozen BK149.out 4; have hcz12_0 : w9.cell? ⟨gb150, 0, none⟩ = some (.int .i64 a1_0) := (blk_cell BK150.out 0).trans rfl; have hcz12_1 : w9.cell? ⟨gb150, 1, none⟩ = some (.int .i64 a1_1) := (blk_cell BK150.out 1).trans rfl; have hcz12_2 : w9.cell? ⟨gb150, 2, none⟩ = some (.int .u64 a1_2) := (blk_cell BK150.out 2).trans rfl; have hcz12_3 : w9.cell? ⟨gb150, 3, none⟩ = some (.string a1_3) := (blk_cell BK150.out 3).trans rfl; have hcz12_4 : w9.cell? ⟨gb150, 4, none⟩ = some (.slice A1_4 l1_4.length c1_4) := (blk_cell BK150.out 4).trans rfl; have hfz12_0 := blk_frozen BK150.out 0; have hfz12_1 := blk_frozen BK150.out 1; have hfz12_2 := blk_frozen BK150.out 2; have hfz12_3 := blk_frozen BK150.out 3; have hfz12_4 := blk_frozen BK150.out 4) | (go_at_call 35; (with_reducible refine (chaperonkit_SameLayers.calls k _ _ l0_4 _ _ l1_4 t151 _ ?side1 ?side2 ?side3 ?side4 A7.out).mono ?_); (case side1 => repeat (first | exact (Kd.C_below HR0_4.out HB.out) | (with_reducible refine Kd.C_alloc ?_ _) | (with_reducible refine Kd.C_drewN ?_ _) | (with_reducible refine Kd.C_drew ?_))); (case side2 => exact HC0_4.out); (case side3 => repeat (first | exact (Kd.C_below HR1_4.out HB.out) | (with_reducible refine Kd.C_alloc ?_ _) | (with_reducible refine Kd.C_drewN ?_ _) | (with_reducible refine Kd.C_drew ?_))); (case side4 => exact HC1_4.out); rintro e w' ⟨rfl, ⟨nd, rfl⟩⟩))
     go_ret
     exact ⟨by first | rfl | (simp [errW_none, errW_some] <;> rfl) | (simp [*, errW_none, errW_some] <;> rfl), by repeat (first | (with_reducible first | exact HB.out | apply below_alloc | apply pw_below_drewN | apply below_drew1 | refine below_set ?_ GE149.out | refine below_set ?_ GE150.out) | exact HB.out)⟩
    ·
     rw [if_neg c6] at H
     have c6b0 : (a0_3.toList == a1_3.toList) = false := beq_eq_false_iff_ne.mpr c6
     have c6b1 : (a0_3.toList != a1_3.toList) = true := bne_iff_ne.mpr c6
     obtain rfl := Option.some.inj H
     go_enter Try.func14, Try.ntmps14
     go_wp2_with (first | ((with_reducible refine gate_dst (N := 2) rfl ?_); refine box_event ?hg (N := 2) ?hd (cs := #[.int .i64 a0_0, .int .i64 a0_1, .int .u64 a0_2, .string a0_3, .slice A0_4 l0_4.length c0_4]) (t := 27) ?hr ?_; (case hd => rfl); (case hg => rfl); (case hr => first | (go_simp; done) | (go_simp; rfl)); intro gb149 hg w13 hbox hb; have n0_ := Aside0.mk (below_step (by repeat (first | (with_reducible first | exact HB.out | apply below_alloc | apply pw_below_drewN | apply below_drew1) | exact HB.out)) hb); have n1_ := Aside0.mk (hbox); have n2_ := Aside0.mk ((by rw [hg]; exact (below_size (by repeat (first | (with_reducible first | exact HB.out | apply below_alloc | apply pw_below_drewN | apply below_drew1) | exact HB.out))) : w.heap.size ≤ gb149)); have n3_ := Aside0.mk ((by rw [hg]; exact (below_size (by repeat (first | (with_reducible first | exact HB.out | apply below_alloc | apply pw_below_drewN | apply below_drew1) | exact HB.out))) : w.heap.size ≤ gb149)); clear HB; have HB := n0_; have BK149 := n1_; have GW149 := n2_; have GE149 := n3_; clear n0_ n1_ n2_ n3_; clear hb hbox hg) | ((with_reducible refine gate_dst (N := 3) rfl ?_); refine box_event ?hg (N := 3) ?hd (cs := #[.int .i64 a1_0, .int .i64 a1_1, .int .u64 a1_2, .string a1_3, .slice A1_4 l1_4.length c1_4]) (t := 27) ?hr ?_; (case hd => rfl); (case hg => rfl); (case hr => first | (go_simp; done) | (go_simp; rfl)); intro gb150 hg w14 hbox hb; have n0_ := Aside0.mk (blk_below (g := gb149) (o := .cells #[.int .i64 a0_0, .int .i64 a0_1, .int .u64 a0_2, .string a0_3, .slice A0_4 l0_4.length c0_4] 27 (0, 0)) (by (with_reducible repeat (first | refine blk_drewN ?_ _ | refine blk_drew ?_ | refine blk_alloc ?_ _)); exact BK149.out) hb); have n1_ := Aside0.mk (below_step (by repeat (first | (with_reducible first | exact HB.out | apply below_alloc | apply pw_below_drewN | apply below_drew1 | refine below_set ?_ GE149.out) | exact HB.out)) hb); have n2_ := Aside0.mk (hbox); have n3_ := Aside0.mk ((by rw [hg]; exact (below_size (by repeat (first | (with_reducible first | exact HB.out | apply below_alloc | apply pw_below_drewN | apply below_drew1 | refine below_set ?_ GE149.out) | exact HB.out))) : w.heap.size ≤ gb150)); have n4_ := Aside0.mk ((by rw [hg]; exact (below_size (by repeat (first | (with_reducible first | exact HB.out | apply below_alloc | apply pw_below_drewN | apply below_drew1 | refine below_set ?_ GE149.out) | exact HB.out))) : w.heap.size ≤ gb150)); have n5_ := Aside0.mk ((by rw [hg]; exact Nat.ne_of_lt (blk_lt (g := gb149) (o := .cells #[.int .i64 a0_0, .int .i64 a0_1, .int .u64 a0_2, .string a0_3, .slice A0_4 l0_4.length c0_4] 27 (0, 0)) (by (with_reducible repeat (first | refine blk_drewN ?_ _ | refine blk_drew ?_ | refine blk_alloc ?_ _)); exact BK149.out)) : gb149 ≠ gb150)); have n6_ := Aside0.mk ((by rw [hg]; exact Nat.ne_of_gt (blk_lt (g := gb149) (o := .cells #[.int .i64 a0_0, .int .i64 a0_1, .int .u64 a0_2, .string a0_3, .slice A0_4 l0_4.length c0_4] 27 (0, 0)) (by (with_reducible repeat (first | refine blk_drewN ?_ _ | refine blk_drew ?_ | refine blk_alloc ?_ _)); exact BK149.out)) : gb150 ≠ gb149)); clear BK149; clear HB; have BK149 := n0_; have HB := n1_; have BK150 := n2_; have GW150 := n3_; have GE150 := n4_; have NB149_150 := n5_; have NB150_149 := n6_; clear n0_ n1_ n2_ n3_ n4_ n5_ n6_; clear hb hbox hg; have hnb15 := NB149_150.out; have hnc15 := NB150_149.out; have hcz16_0 : w14.cell? ⟨gb149, 0, none⟩ = some (.int .i64 a0_0) := (blk_cell BK149.out 0).trans rfl; have hcz16_1 : w14.cell? ⟨gb149, 1, none⟩ = some (.int .i64 a0_1) := (blk_cell BK149.out 1).trans rfl; have hcz16_2 : w14.cell? ⟨gb149, 2, none⟩ = some (.int .u64 a0_2) := (blk_cell BK149.out 2).trans rfl; have hcz16_3 : w14.cell? ⟨gb149, 3, none⟩ = some (.string a0_3) := (blk_cell BK149.out 3).trans rfl; have hcz16_4 : w14.cell? ⟨gb149, 4, none⟩ = some (.slice A0_4 l0_4.length c0_4) := (blk_cell BK149.out 4).trans rfl; have hfz16_0 := blk_frozen BK149.out 0; have hfz16_1 := blk_frozen BK149.out 1; have hfz16_2 := blk_frozen BK149.out 2; have hfz16_3 := blk_frozen BK149.out 3; have hfz16_4 := blk_frozen BK149.out 4; have hcz17_0 : w14.cell? ⟨gb150, 0, none⟩ = some (.int .i64 a1_0) := (blk_cell BK150.out 0).trans rfl; have hcz17_1 : w14.cell? ⟨gb150, 1, none⟩ = some (.int .i64 a1_1) := (blk_cell BK150.out 1).trans rfl; have hcz17_2 : w14.cell? ⟨gb150, 2, none⟩ = some (.int .u64 a1_2) := (blk_cell BK150.out 2).trans rfl; have hcz17_3 : w14.cell? ⟨gb150, 3, none⟩ = some (.string a1_3) := (blk_cell BK150.out 3).trans rfl; have hcz17_4 : w14.cell? ⟨gb150, 4, none⟩ = some (.slice A1_4 l1_4.length c1_4) := (blk_cell BK150.out 4).trans rfl; have hfz17_0 := blk_frozen BK150.out 0; have hfz17_1 := blk_frozen BK150.out 1; have hfz17_2 := blk_frozen BK150.out 2; have hfz17_3 := blk_frozen BK150.out 3; have hfz17_4 := blk_frozen BK150.out 4))
     go_ret
     exact ⟨by first | rfl | (simp [errW_none, errW_some] <;> rfl) | (simp [*, errW_none, errW_some] <;> rfl), by repeat (first | (with_reducible first | exact HB.out | apply below_alloc | apply pw_below_drewN | apply below_drew1 | refine below_set ?_ GE149.out | refine below_set ?_ GE150.out) | exact HB.out)⟩
   ·
    rw [if_neg c5] at H
    have c5b0 : (a0_2 == a1_2) = false := beq_eq_false_iff_ne.mpr c5
    have c5b1 : (a0_2 != a1_2) = true := bne_iff_ne.mpr c5
    obtain rfl := Option.some.inj H
    go_enter Try.func14, Try.ntmps14
    go_wp2_with (first | ((with_reducible refine gate_dst (N := 2) rfl ?_); refine box_event ?hg (N := 2) ?hd (cs := #[.int .i64 a0_0, .int .i64 a0_1, .int .u64 a0_2, .string a0_3, .slice A0_4 l0_4.length c0_4]) (t := 27) ?hr ?_; (case hd => rfl); (case hg => rfl); (case hr => first | (go_simp; done) | (go_simp; rfl)); intro gb149 hg w18 hbox hb; have n0_ := Aside0.mk (below_step (by repeat (first | (with_reducible first | exact HB.out | apply below_alloc | apply pw_below_drewN | apply below_drew1) | exact HB.out)) hb); have n1_ := Aside0.mk (hbox); have n2_ := Aside0.mk ((by rw [hg]; exact (below_size (by repeat (first | (with_reducible first | exact HB.out | apply below_alloc | apply pw_below_drewN | apply below_drew1) | exact HB.out))) : w.heap.size ≤ gb149)); have n3_ := Aside0.mk ((by rw [hg]; exact (below_size (by repeat (first | (with_reducible first | exact HB.out | apply below_alloc | apply pw_below_drewN | apply below_drew1) | exact HB.out))) : w.heap.size ≤ gb149)); clear HB; have HB := n0_; have BK149 := n1_; have GW149 := n2_; have GE149 := n3_; clear n0_ n1_ n2_ n3_; clear hb hbox hg) | ((with_reducible refine gate_dst (N := 3) rfl ?_); refine box_event ?hg (N := 3) ?hd (cs := #[.int .i64 a1_0, .int .i64 a1_1, .int .u64 a1_2, .string a1_3, .slice A1_4 l1_4.length c1_4]) (t := 27) ?hr ?_; (case hd => rfl); (case hg => rfl); (case hr => first | (go_simp; done) | (go_simp; rfl)); intro gb150 hg w19 hbox hb; have n0_ := Aside0.mk (blk_below (g := gb149) (o := .cells #[.int .i64 a0_0, .int .i64 a0_1, .int .u64 a0_2, .string a0_3, .slice A0_4 l0_4.length c0_4] 27 (0, 0)) (by (with_reducible repeat (first | refine blk_drewN ?_ _ | refine blk_drew ?_ | refine blk_alloc ?_ _)); exact BK149.out) hb); have n1_ := Aside0.mk (below_step (by repeat (first | (with_reducible first | exact HB.out | apply below_alloc | apply pw_below_drewN | apply below_drew1 | refine below_set ?_ GE149.out) | exact HB.out)) hb); have n2_ := Aside0.mk (hbox); have n3_ := Aside0.mk ((by rw [hg]; exact (below_size (by repeat (first | (with_reducible first | exact HB.out | apply below_alloc | apply pw_below_drewN | apply below_drew1 | refine below_set ?_ GE149.out) | exact HB.out))) : w.heap.size ≤ gb150)); have n4_ := Aside0.mk ((by rw [hg]; exact (below_size (by repeat (first | (with_reducible first | exact HB.out | apply below_alloc | apply pw_below_drewN | apply below_drew1 | refine below_set ?_ GE149.out) | exact HB.out))) : w.heap.size ≤ gb150)); have n5_ := Aside0.mk ((by rw [hg]; exact Nat.ne_of_lt (blk_lt (g := gb149) (o := .cells #[.int .i64 a0_0, .int .i64 a0_1, .int .u64 a0_2, .string a0_3, .slice A0_4 l0_4.length c0_4] 27 (0, 0)) (by (with_reducible repeat (first | refine blk_drewN ?_ _ | refine blk_drew ?_ | refine blk_alloc ?_ _)); exact BK149.out)) : gb149 ≠ gb150)); have n6_ := Aside0.mk ((by rw [hg]; exact Nat.ne_of_gt (blk_lt (g := gb149) (o := .cells #[.int .i64 a0_0, .int .i64 a0_1, .int .u64 a0_2, .string a0_3, .slice A0_4 l0_4.length c0_4] 27 (0, 0)) (by (with_reducible repeat (first | refine blk_drewN ?_ _ | refine blk_drew ?_ | refine blk_alloc ?_ _)); exact BK149.out)) : gb150 ≠ gb149)); clear BK149; clear HB; have BK149 := n0_; have HB := n1_; have BK150 := n2_; have GW150 := n3_; have GE150 := n4_; have NB149_150 := n5_; have NB150_149 := n6_; clear n0_ n1_ n2_ n3_ n4_ n5_ n6_; clear hb hbox hg; have hnb20 := NB149_150.out; have hnc20 := NB150_149.out; have hcz21_0 : w19.cell? ⟨gb149, 0, none⟩ = some (.int .i64 a0_0) := (blk_cell BK149.out 0).trans rfl; have hcz21_1 : w19.cell? ⟨gb149, 1, none⟩ = some (.int .i64 a0_1) := (blk_cell BK149.out 1).trans rfl; have hcz21_2 : w19.cell? ⟨gb149, 2, none⟩ = some (.int .u64 a0_2) := (blk_cell BK149.out 2).trans rfl; have hcz21_3 : w19.cell? ⟨gb149, 3, none⟩ = some (.string a0_3) := (blk_cell BK149.out 3).trans rfl; have hcz21_4 : w19.cell? ⟨gb149, 4, none⟩ = some (.slice A0_4 l0_4.length c0_4) := (blk_cell BK149.out 4).trans rfl; have hfz21_0 := blk_frozen BK149.out 0; have hfz21_1 := blk_frozen BK149.out 1; have hfz21_2 := blk_frozen BK149.out 2; have hfz21_3 := blk_frozen BK149.out 3; have hfz21_4 := blk_frozen BK149.out 4; have hcz22_0 : w19.cell? ⟨gb150, 0, none⟩ = some (.int .i64 a1_0) := (blk_cell BK150.out 0).trans rfl; have hcz22_1 : w19.cell? ⟨gb150, 1, none⟩ = some (.int .i64 a1_1) := (blk_cell BK150.out 1).trans rfl; have hcz22_2 : w19.cell? ⟨gb150, 2, none⟩ = some (.int .u64 a1_2) := (blk_cell BK150.out 2).trans rfl; have hcz22_3 : w19.cell? ⟨gb150, 3, none⟩ = some (.string a1_3) := (blk_cell BK150.out 3).trans rfl; have hcz22_4 : w19.cell? ⟨gb150, 4, none⟩ = some (.slice A1_4 l1_4.length c1_4) := (blk_cell BK150.out 4).trans rfl; have hfz22_0 := blk_frozen BK150.out 0; have hfz22_1 := blk_frozen BK150.out 1; have hfz22_2 := blk_frozen BK150.out 2; have hfz22_3 := blk_frozen BK150.out 3; have hfz22_4 := blk_frozen BK150.out 4))
    go_ret
    exact ⟨by first | rfl | (simp [errW_none, errW_some] <;> rfl) | (simp [*, errW_none, errW_some] <;> rfl), by repeat (first | (with_reducible first | exact HB.out | apply below_alloc | apply pw_below_drewN | apply below_drew1 | refine below_set ?_ GE149.out | refine below_set ?_ GE150.out) | exact HB.out)⟩
  ·
   rw [if_neg c4] at H
   have c4b0 : (a0_1 == a1_1) = false := beq_eq_false_iff_ne.mpr c4
   have c4b1 : (a0_1 != a1_1) = true := bne_iff_ne.mpr c4
   obtain rfl := Option.some.inj H
   go_enter Try.func14, Try.ntmps14
   go_wp2_with (first | ((with_reducible refine gate_dst (N := 2) rfl ?_); refine box_event ?hg (N := 2) ?hd (cs := #[.int .i64 a0_0, .int .i64 a0_1, .int .u64 a0_2, .string a0_3, .slice A0_4 l0_4.length c0_4]) (t := 27) ?hr ?_; (case hd => rfl); (case hg => rfl); (case hr => first | (go_simp; done) | (go_simp; rfl)); intro gb149 hg w23 hbox hb; have n0_ := Aside0.mk (below_step (by repeat (first | (with_reducible first | exact HB.out | apply below_alloc | apply pw_below_drewN | apply below_drew1) | exact HB.out)) hb); have n1_ := Aside0.mk (hbox); have n2_ := Aside0.mk ((by rw [hg]; exact (below_size (by repeat (first | (with_reducible first | exact HB.out | apply below_alloc | apply pw_below_drewN | apply below_drew1) | exact HB.out))) : w.heap.size ≤ gb149)); have n3_ := Aside0.mk ((by rw [hg]; exact (below_size (by repeat (first | (with_reducible first | exact HB.out | apply below_alloc | apply pw_below_drewN | apply below_drew1) | exact HB.out))) : w.heap.size ≤ gb149)); clear HB; have HB := n0_; have BK149 := n1_; have GW149 := n2_; have GE149 := n3_; clear n0_ n1_ n2_ n3_; clear hb hbox hg) | ((with_reducible refine gate_dst (N := 3) rfl ?_); refine box_event ?hg (N := 3) ?hd (cs := #[.int .i64 a1_0, .int .i64 a1_1, .int .u64 a1_2, .string a1_3, .slice A1_4 l1_4.length c1_4]) (t := 27) ?hr ?_; (case hd => rfl); (case hg => rfl); (case hr => first | (go_simp; done) | (go_simp; rfl)); intro gb150 hg w24 hbox hb; have n0_ := Aside0.mk (blk_below (g := gb149) (o := .cells #[.int .i64 a0_0, .int .i64 a0_1, .int .u64 a0_2, .string a0_3, .slice A0_4 l0_4.length c0_4] 27 (0, 0)) (by (with_reducible repeat (first | refine blk_drewN ?_ _ | refine blk_drew ?_ | refine blk_alloc ?_ _)); exact BK149.out) hb); have n1_ := Aside0.mk (below_step (by repeat (first | (with_reducible first | exact HB.out | apply below_alloc | apply pw_below_drewN | apply below_drew1 | refine below_set ?_ GE149.out) | exact HB.out)) hb); have n2_ := Aside0.mk (hbox); have n3_ := Aside0.mk ((by rw [hg]; exact (below_size (by repeat (first | (with_reducible first | exact HB.out | apply below_alloc | apply pw_below_drewN | apply below_drew1 | refine below_set ?_ GE149.out) | exact HB.out))) : w.heap.size ≤ gb150)); have n4_ := Aside0.mk ((by rw [hg]; exact (below_size (by repeat (first | (with_reducible first | exact HB.out | apply below_alloc | apply pw_below_drewN | apply below_drew1 | refine below_set ?_ GE149.out) | exact HB.out))) : w.heap.size ≤ gb150)); have n5_ := Aside0.mk ((by rw [hg]; exact Nat.ne_of_lt (blk_lt (g := gb149) (o := .cells #[.int .i64 a0_0, .int .i64 a0_1, .int .u64 a0_2, .string a0_3, .slice A0_4 l0_4.length c0_4] 27 (0, 0)) (by (with_reducible repeat (first | refine blk_drewN ?_ _ | refine blk_drew ?_ | refine blk_alloc ?_ _)); exact BK149.out)) : gb149 ≠ gb150)); have n6_ := Aside0.mk ((by rw [hg]; exact Nat.ne_of_gt (blk_lt (g := gb149) (o := .cells #[.int .i64 a0_0, .int .i64 a0_1, .int .u64 a0_2, .string a0_3, .slice A0_4 l0_4.length c0_4] 27 (0, 0)) (by (with_reducible repeat (first | refine blk_drewN ?_ _ | refine blk_drew ?_ | refine blk_alloc ?_ _)); exact BK149.out)) : gb150 ≠ gb149)); clear BK149; clear HB; have BK149 := n0_; have HB := n1_; have BK150 := n2_; have GW150 := n3_; have GE150 := n4_; have NB149_150 := n5_; have NB150_149 := n6_; clear n0_ n1_ n2_ n3_ n4_ n5_ n6_; clear hb hbox hg; have hnb25 := NB149_150.out; have hnc25 := NB150_149.out; have hcz26_0 : w24.cell? ⟨gb149, 0, none⟩ = some (.int .i64 a0_0) := (blk_cell BK149.out 0).trans rfl; have hcz26_1 : w24.cell? ⟨gb149, 1, none⟩ = some (.int .i64 a0_1) := (blk_cell BK149.out 1).trans rfl; have hcz26_2 : w24.cell? ⟨gb149, 2, none⟩ = some (.int .u64 a0_2) := (blk_cell BK149.out 2).trans rfl; have hcz26_3 : w24.cell? ⟨gb149, 3, none⟩ = some (.string a0_3) := (blk_cell BK149.out 3).trans rfl; have hcz26_4 : w24.cell? ⟨gb149, 4, none⟩ = some (.slice A0_4 l0_4.length c0_4) := (blk_cell BK149.out 4).trans rfl; have hfz26_0 := blk_frozen BK149.out 0; have hfz26_1 := blk_frozen BK149.out 1; have hfz26_2 := blk_frozen BK149.out 2; have hfz26_3 := blk_frozen BK149.out 3; have hfz26_4 := blk_frozen BK149.out 4; have hcz27_0 : w24.cell? ⟨gb150, 0, none⟩ = some (.int .i64 a1_0) := (blk_cell BK150.out 0).trans rfl; have hcz27_1 : w24.cell? ⟨gb150, 1, none⟩ = some (.int .i64 a1_1) := (blk_cell BK150.out 1).trans rfl; have hcz27_2 : w24.cell? ⟨gb150, 2, none⟩ = some (.int .u64 a1_2) := (blk_cell BK150.out 2).trans rfl; have hcz27_3 : w24.cell? ⟨gb150, 3, none⟩ = some (.string a1_3) := (blk_cell BK150.out 3).trans rfl; have hcz27_4 : w24.cell? ⟨gb150, 4, none⟩ = some (.slice A1_4 l1_4.length c1_4) := (blk_cell BK150.out 4).trans rfl; have hfz27_0 := blk_frozen BK150.out 0; have hfz27_1 := blk_frozen BK150.out 1; have hfz27_2 := blk_frozen BK150.out 2; have hfz27_3 := blk_frozen BK150.out 3; have hfz27_4 := blk_frozen BK150.out 4))
   go_ret
   exact ⟨by first | rfl | (simp [errW_none, errW_some] <;> rfl) | (simp [*, errW_none, errW_some] <;> rfl), by repeat (first | (with_reducible first | exact HB.out | apply below_alloc | apply pw_below_drewN | apply below_drew1 | refine below_set ?_ GE149.out | refine below_set ?_ GE150.out) | exact HB.out)⟩
 ·
  rw [if_neg c3] at H
  have c3b0 : (a0_0 == a1_0) = false := beq_eq_false_iff_ne.mpr c3
  have c3b1 : (a0_0 != a1_0) = true := bne_iff_ne.mpr c3
  obtain rfl := Option.some.inj H
  go_enter Try.func14, Try.ntmps14
  go_wp2_with (first | ((with_reducible refine gate_dst (N := 2) rfl ?_); refine box_event ?hg (N := 2) ?hd (cs := #[.int .i64 a0_0, .int .i64 a0_1, .int .u64 a0_2, .string a0_3, .slice A0_4 l0_4.length c0_4]) (t := 27) ?hr ?_; (case hd => rfl); (case hg => rfl); (case hr => first | (go_simp; done) | (go_simp; rfl)); intro gb149 hg w28 hbox hb; have n0_ := Aside0.mk (below_step (by repeat (first | (with_reducible first | exact HB.out | apply below_alloc | apply pw_below_drewN | apply below_drew1) | exact HB.out)) hb); have n1_ := Aside0.mk (hbox); have n2_ := Aside0.mk ((by rw [hg]; exact (below_size (by repeat (first | (with_reducible first | exact HB.out | apply below_alloc | apply pw_below_drewN | apply below_drew1) | exact HB.out))) : w.heap.size ≤ gb149)); have n3_ := Aside0.mk ((by rw [hg]; exact (below_size (by repeat (first | (with_reducible first | exact HB.out | apply below_alloc | apply pw_below_drewN | apply below_drew1) | exact HB.out))) : w.heap.size ≤ gb149)); clear HB; have HB := n0_; have BK149 := n1_; have GW149 := n2_; have GE149 := n3_; clear n0_ n1_ n2_ n3_; clear hb hbox hg) | ((with_reducible refine gate_dst (N := 3) rfl ?_); refine box_event ?hg (N := 3) ?hd (cs := #[.int .i64 a1_0, .int .i64 a1_1, .int .u64 a1_2, .string a1_3, .slice A1_4 l1_4.length c1_4]) (t := 27) ?hr ?_; (case hd => rfl); (case hg => rfl); (case hr => first | (go_simp; done) | (go_simp; rfl)); intro gb150 hg w29 hbox hb; have n0_ := Aside0.mk (blk_below (g := gb149) (o := .cells #[.int .i64 a0_0, .int .i64 a0_1, .int .u64 a0_2, .string a0_3, .slice A0_4 l0_4.length c0_4] 27 (0, 0)) (by (with_reducible repeat (first | refine blk_drewN ?_ _ | refine blk_drew ?_ | refine blk_alloc ?_ _)); exact BK149.out) hb); have n1_ := Aside0.mk (below_step (by repeat (first | (with_reducible first | exact HB.out | apply below_alloc | apply pw_below_drewN | apply below_drew1 | refine below_set ?_ GE149.out) | exact HB.out)) hb); have n2_ := Aside0.mk (hbox); have n3_ := Aside0.mk ((by rw [hg]; exact (below_size (by repeat (first | (with_reducible first | exact HB.out | apply below_alloc | apply pw_below_drewN | apply below_drew1 | refine below_set ?_ GE149.out) | exact HB.out))) : w.heap.size ≤ gb150)); have n4_ := Aside0.mk ((by rw [hg]; exact (below_size (by repeat (first | (with_reducible first | exact HB.out | apply below_alloc | apply pw_below_drewN | apply below_drew1 | refine below_set ?_ GE149.out) | exact HB.out))) : w.heap.size ≤ gb150)); have n5_ := Aside0.mk ((by rw [hg]; exact Nat.ne_of_lt (blk_lt (g := gb149) (o := .cells #[.int .i64 a0_0, .int .i64 a0_1, .int .u64 a0_2, .string a0_3, .slice A0_4 l0_4.length c0_4] 27 (0, 0)) (by (with_reducible repeat (first | refine blk_drewN ?_ _ | refine blk_drew ?_ | refine blk_alloc ?_ _)); exact BK149.out)) : gb149 ≠ gb150)); have n6_ := Aside0.mk ((by rw [hg]; exact Nat.ne_of_gt (blk_lt (g := gb149) (o := .cells #[.int .i64 a0_0, .int .i64 a0_1, .int .u64 a0_2, .string a0_3, .slice A0_4 l0_4.length c0_4] 27 (0, 0)) (by (with_reducible repeat (first | refine blk_drewN ?_ _ | refine blk_drew ?_ | refine blk_alloc ?_ _)); exact BK149.out)) : gb150 ≠ gb149)); clear BK149; clear HB; have BK149 := n0_; have HB := n1_; have BK150 := n2_; have GW150 := n3_; have GE150 := n4_; have NB149_150 := n5_; have NB150_149 := n6_; clear n0_ n1_ n2_ n3_ n4_ n5_ n6_; clear hb hbox hg; have hnb30 := NB149_150.out; have hnc30 := NB150_149.out; have hcz31_0 : w29.cell? ⟨gb149, 0, none⟩ = some (.int .i64 a0_0) := (blk_cell BK149.out 0).trans rfl; have hcz31_1 : w29.cell? ⟨gb149, 1, none⟩ = some (.int .i64 a0_1) := (blk_cell BK149.out 1).trans rfl; have hcz31_2 : w29.cell? ⟨gb149, 2, none⟩ = some (.int .u64 a0_2) := (blk_cell BK149.out 2).trans rfl; have hcz31_3 : w29.cell? ⟨gb149, 3, none⟩ = some (.string a0_3) := (blk_cell BK149.out 3).trans rfl; have hcz31_4 : w29.cell? ⟨gb149, 4, none⟩ = some (.slice A0_4 l0_4.length c0_4) := (blk_cell BK149.out 4).trans rfl; have hfz31_0 := blk_frozen BK149.out 0; have hfz31_1 := blk_frozen BK149.out 1; have hfz31_2 := blk_frozen BK149.out 2; have hfz31_3 := blk_frozen BK149.out 3; have hfz31_4 := blk_frozen BK149.out 4; have hcz32_0 : w29.cell? ⟨gb150, 0, none⟩ = some (.int .i64 a1_0) := (blk_cell BK150.out 0).trans rfl; have hcz32_1 : w29.cell? ⟨gb150, 1, none⟩ = some (.int .i64 a1_1) := (blk_cell BK150.out 1).trans rfl; have hcz32_2 : w29.cell? ⟨gb150, 2, none⟩ = some (.int .u64 a1_2) := (blk_cell BK150.out 2).trans rfl; have hcz32_3 : w29.cell? ⟨gb150, 3, none⟩ = some (.string a1_3) := (blk_cell BK150.out 3).trans rfl; have hcz32_4 : w29.cell? ⟨gb150, 4, none⟩ = some (.slice A1_4 l1_4.length c1_4) := (blk_cell BK150.out 4).trans rfl; have hfz32_0 := blk_frozen BK150.out 0; have hfz32_1 := blk_frozen BK150.out 1; have hfz32_2 := blk_frozen BK150.out 2; have hfz32_3 := blk_frozen BK150.out 3; have hfz32_4 := blk_frozen BK150.out 4))
  go_ret
  exact ⟨by first | rfl | (simp [errW_none, errW_some] <;> rfl) | (simp [*, errW_none, errW_some] <;> rfl), by repeat (first | (with_reducible first | exact HB.out | apply below_alloc | apply pw_below_drewN | apply below_drew1 | refine below_set ?_ GE149.out | refine below_set ?_ GE150.out) | exact HB.out)⟩
end Go.Proofs.Ytinkbljjpafadaa.PAll
end

section
namespace Go.Proofs.Ytinkbljjpafadaa.PAll
open Go.RowKit Go.Proofs.YtinkbljjpafadaaW.PrintWords Go.Proofs.YtinkbljjpafadaaW.PrintLast Go.Proofs.YtinkbljjpafadaaW.PrintMore
attribute [local go_sem] max2_int min2_int max_two min_two max_three min_three max_four min_four   -- for this text's walks alone
set_option linter.unusedVariables false
set_option linter.unusedSimpArgs false
def words_Class.f (a0 : ByteArray) : Option Bool := if a0.size ≤ 9223372036854775807 then some (Go.Proofs.YtinkbljjpafadaaWords.word Go.Proofs.YtinkbljjpafadaaWords.great a0) else none
theorem words_Class.calls (a0 : ByteArray) (r : Bool) (w : World) (h : words_Class.f a0 = some r) :
  Calls Try.prog 27 #[.string a0] w fun e w' => e = .returned (.bool r) ∧ Below w.heap.size w w' := by
 unfold words_Class.f at h
 by_cases hs : a0.size ≤ 9223372036854775807
 ·
  rw [if_pos hs] at h
  obtain rfl := Option.some.inj h
  clear h
  obtain ⟨b, hb⟩ : ∃ b, b = Go.Proofs.YtinkbljjpafadaaWords.word Go.Proofs.YtinkbljjpafadaaWords.great a0 := ⟨_, rfl⟩
  have HB := Aside0.mk hb
  rw [← hb]
  clear hb
  go_enter Try.func27, Try.ntmps27
  go_wp2_with (go_at_call 40; refine (Go.Proofs.YtinkbljjpafadaaWords.word_great _ _ hs).mono ?_; rintro e w' ⟨rfl, hb⟩; rw [← HB.out]; have HW := Aside0.mk hb; clear hb)
  go_ret
  exact ⟨rfl, HW.out⟩
 ·
  rw [if_neg hs] at h; cases h
def words_Tag.f (a0 : ByteArray) : Option (Int × Int) := some (Go.Proofs.YtinkbljjpafadaaWords.tag2 a0)
theorem words_Tag.calls (a0 : ByteArray) (r1 : Int) (r2 : Int) (w : World) (h : words_Tag.f a0 = some (r1, r2)) :
  Calls Try.prog 44 #[.string a0] w fun e w' => e = .returned (.tuple #[.int .i64 r1, .int .i64 r2]) ∧ Below w.heap.size w w' :=
 Go.Proofs.YtinkbljjpafadaaWords.Tag_calls a0 w r1 r2 (Option.some.inj h)
def words_Base.f (a0 : ByteArray) : Option (Bool) := (words_Tag.f a0).bind fun bt152 => (some (bt152.2 == 0))
set_option maxHeartbeats 8000000 in
set_option maxRecDepth 100000 in
theorem words_Base.calls (a0 : ByteArray) (r : Bool) (w : World) (h : words_Base.f a0 = some r) :
  Calls Try.prog 29 #[.string a0] w fun e w' => e = .returned (.bool r) ∧ Below w.heap.size w w' := by
 have HB := Aside0.mk (Below.refl w.heap.size w)
 have H : ((words_Tag.f a0).bind fun bt152 => (some (bt152.2 == 0))) = some r := h
 clear h
 replace H := Option.bind_eq_some_iff.mp H
 obtain ⟨⟨t152, t153⟩, A20, H⟩ := H
 replace H : (some (t153 == 0)) = some r := H
 have A2 := Aside0.mk A20
 clear A20
 obtain rfl := Option.some.inj H
 go_enter Try.func29, Try.ntmps29
 go_wp2_with (first | ((with_reducible refine gate_callee (f := 44) rfl ?_); refine goesL_ (some 7) rfl rfl Try.func44 (by kernel_rfl) rfl #[.string a0] rfl (by (try simp only [List.map_toArray, List.map_cons, List.map_nil]); first | done | rfl | (simp only [List.length_drop, List.length_take]; rfl)) ?_; (with_reducible refine (words_Tag.calls a0 t152 t153 _ A2.out).mono ?_); rintro e w3 ⟨rfl, hb⟩; refine ⟨_, rfl, ?_⟩; have n0_ := Aside0.mk (below_step (by repeat (first | (with_reducible first | exact HB.out | apply below_alloc | apply pw_below_drewN | apply below_drew1) | exact HB.out)) hb); clear HB; have HB := n0_; clear n0_; (try clear hb); (try clear hb2); (try clear hk); (try clear hi)))
 go_ret
 exact ⟨by first | rfl | (simp [errW_none, errW_some] <;> rfl) | (simp [*, errW_none, errW_some] <;> rfl), by repeat (first | (with_reducible first | exact HB.out | apply below_alloc | apply pw_below_drewN | apply below_drew1) | exact HB.out)⟩
end Go.Proofs.Ytinkbljjpafadaa.PAll
end

section
namespace Go.Proofs.Ytinkbljjpafadaa.PAll
open Go.RowKit Go.Proofs.YtinkbljjpafadaaW.PrintWords Go.Proofs.YtinkbljjpafadaaW.PrintLast Go.Proofs.YtinkbljjpafadaaW.PrintMore
attribute [local go_sem] max2_int min2_int max_two min_two max_three min_three max_four min_four   -- for this text's walks alone
set_option linter.unusedVariables false
set_option linter.unusedSimpArgs false
def words_Kind.f (a0 : ByteArray) : Option (Int) := (words_Base.f a0).bind fun t154 => (if t154 = true then (some 1) else (if a0.toList = ([63] : List UInt8) then (some 2) else ((words_Class.f a0).bind fun t155 => (if t155 = true then (some 3) else (some 0)))))
set_option maxHeartbeats 8000000 in
set_option maxRecDepth 100000 in
theorem words_Kind.calls (a0 : ByteArray) (r : Int) (w : World) (h : words_Kind.f a0 = some r) :
  Calls Try.prog 51 #[.string a0] w fun e w' => e = .returned (.int .i64 r) ∧ Below w.heap.size w w' := by
 have HB := Aside0.mk (Below.refl w.heap.size w)
 have H : ((words_Base.f a0).bind fun t154 => (if t154 = true then (some 1) else (if a0.toList = ([63] : List UInt8) then (some 2) else ((words_Class.f a0).bind fun t155 => (if t155 = true then (some 3) else (some 0)))))) = some r := h
 clear h
 replace H := Option.bind_eq_some_iff.mp H
 obtain ⟨t154, A20, H⟩ := H
 replace H : (if t154 = true then (some 1) else (if a0.toList = ([63] : List UInt8) then (some 2) else ((words_Class.f a0).bind fun t155 => (if t155 = true then (some 3) else (some 0))))) = some r := H
 have A2 := Aside0.mk A20
 clear A20
 by_cases c3 : t154 = true
 ·
  subst c3
  have H1 : (some 1) = some r := by rw [if_pos rfl] at H; exact H
  clear H
  have H := H1
  clear H1
  obtain rfl := Option.some.inj H
  go_enter Try.func51, Try.ntmps51
  go_wp2_with (first | ((with_reducible refine gate_callee (f := 29) rfl ?_); refine goesL_ (some 5) rfl rfl Try.func29 (by kernel_rfl) rfl #[.string a0] rfl (by (try simp only [List.map_toArray, List.map_cons, List.map_nil]); first | done | rfl | (simp only [List.length_drop, List.length_take]; rfl)) ?_; (with_reducible refine (words_Base.calls a0 true _ A2.out).mono ?_); rintro e w4 ⟨rfl, hb⟩; refine ⟨_, rfl, ?_⟩; have n0_ := Aside0.mk (below_step (by repeat (first | (with_reducible first | exact HB.out | apply below_alloc | apply pw_below_drewN | apply below_drew1) | exact HB.out)) hb); clear HB; have HB := n0_; clear n0_; (try clear hb); (try clear hb2); (try clear hk); (try clear hi)))
  go_ret
  exact ⟨by first | rfl | (simp [errW_none, errW_some] <;> rfl) | (simp [*, errW_none, errW_some] <;> rfl), by repeat (first | (with_reducible first | exact HB.out | apply below_alloc | apply pw_below_drewN | apply below_drew1) | exact HB.out)⟩
 ·
  replace c3 := Bool.eq_false_iff.mpr c3
  subst c3
  have H1 : (if a0.toList = ([63] : List UInt8) then (some 2) else ((words_Class.f a0).bind fun t155 => (if t155 = true then (some 3) else (some 0)))) = some r := by rw [if_neg (show ¬ (false = true) by decide)] at H; exact H
  clear H
  have H := H1
  clear H1
  by_cases c5 : a0.toList = ([63] : List UInt8)
  ·
   rw [if_pos c5] at H
   have c5b0 : (a0.toList == ([63] : List UInt8)) = true := beq_iff_eq.mpr c5
   have c5b1 : (a0.toList != ([63] : List UInt8)) = false := bne_eq_false_iff_eq.mpr c5
   clear c5
   obtain rfl := Option.some.inj H
   go_enter Try.func51, Try.ntmps51
   go_wp2_with (first | ((with_reducible refine gate_callee (f := 29) rfl ?_); refine goesL_ (some 5) rfl rfl Try.func29 (by kernel_rfl) rfl #[.string a0] rfl (by (try simp only [List.map_toArray, List.map_cons, List.map_nil]); first | done | rfl | (simp only [List.length_drop, List.length_take]; rfl)) ?_; (with_reducible refine (words_Base.calls a0 false _ A2.out).mono ?_); rintro e w6 ⟨rfl, hb⟩; refine ⟨_, rfl, ?_⟩; have n0_ := Aside0.mk (below_step (by repeat (first | (with_reducible first | exact HB.out | apply below_alloc | apply pw_below_drewN | apply below_drew1) | exact HB.out)) hb); clear HB; have HB := n0_; clear n0_; (try clear hb); (try clear hb2); (try clear hk); (try clear hi)))
   go_ret
   exact ⟨by first | rfl | (simp [errW_none, errW_some] <;> rfl) | (simp [*, errW_none, errW_some] <;> rfl), by repeat (first | (with_reducible first | exact HB.out | apply below_alloc | apply pw_below_drewN | apply below_drew1) | exact HB.out)⟩
  ·
   rw [if_neg c5] at H
   have c5b0 : (a0.toList == ([63] : List UInt8)) = false := beq_eq_false_iff_ne.mpr c5
   have c5b1 : (a0.toList != ([63] : List UInt8)) = true := bne_iff_ne.mpr c5
   replace H := Option.bind_eq_some_iff.mp H
   obtain ⟨t155, A70, H⟩ := H
   replace H : (if t155 = true then (some 3) else (some 0)) = some r := H
   have A7 := Aside0.mk A70
   clear A70
   by_cases c8 : t155 = true
   ·
    subst c8
    have H1 : (some 3) = some r := by rw [if_pos rfl] at H; exact H
    clear H
    have H := H1
    clear H1
    obtain rfl := Option.some.inj H
    go_enter Try.func51, Try.ntmps51
    go_wp2_with (first | ((with_reducible refine gate_callee (f := 29) rfl ?_); refine goesL_ (some 5) rfl rfl Try.func29 (by kernel_rfl) rfl #[.string a0] rfl (by (try simp only [List.map_toArray, List.map_cons, List.map_nil]); first | done | rfl | (simp only [List.length_drop, List.length_take]; rfl)) ?_; (with_reducible refine (words_Base.calls a0 false _ A2.out).mono ?_); rintro e w9 ⟨rfl, hb⟩; refine ⟨_, rfl, ?_⟩; have n0_ := Aside0.mk (below_step (by repeat (first | (with_reducible first | exact HB.out | apply below_alloc | apply pw_below_drewN | apply below_drew1) | exact HB.out)) hb); clear HB; have HB := n0_; clear n0_; (try clear hb); (try clear hb2); (try clear hk); (try clear hi)) | ((with_reducible refine gate_callee (f := 27) rfl ?_); refine goesL_ (some 11) rfl rfl Try.func27 (by kernel_rfl) rfl #[.string a0] rfl (by (try simp only [List.map_toArray, List.map_cons, List.map_nil]); first | done | rfl | (simp only [List.length_drop, List.length_take]; rfl)) ?_; (with_reducible refine (words_Class.calls a0 true _ A7.out).mono ?_); rintro e w10 ⟨rfl, hb⟩; refine ⟨_, rfl, ?_⟩; have n0_ := Aside0.mk (below_step (by repeat (first | (with_reducible first | exact HB.out | apply below_alloc | apply pw_below_drewN | apply below_drew1) | exact HB.out)) hb); clear HB; have HB := n0_; clear n0_; (try clear hb); (try clear hb2); (try clear hk); (try clear hi)))
    go_ret
    exact ⟨by first | rfl | (simp [errW_none, errW_some] <;> rfl) | (simp [*, errW_none, errW_some] <;> rfl), by repeat (first | (with_reducible first | exact HB.out | apply below_alloc | apply pw_below_drewN | apply below_drew1) | exact HB.out)⟩
   ·
    replace c8 := Bool.eq_false_iff.mpr c8
    subst c8
    have H1 : (some 0) = some r := by rw [if_neg (show ¬ (false = true) by decide)] at H; exact H
    clear H
    have H := H1
    clear H1
    obtain rfl := Option.some.inj H
    go_enter Try.func51, Try.ntmps51
    go_wp2_with (first | ((with_reducible refine gate_callee (f := 29) rfl ?_); refine goesL_ (some 5) rfl rfl Try.func29 (by kernel_rfl) rfl #[.string a0] rfl (by (try simp only [List.map_toArray, List.map_cons, List.map_nil]); first | done | rfl | (simp only [List.length_drop, List.length_take]; rfl)) ?_; (with_reducible refine (words_Base.calls a0 false _ A2.out).mono ?_); rintro e w11 ⟨rfl, hb⟩; refine ⟨_, rfl, ?_⟩; have n0_ := Aside0.mk (below_step (by repeat (first | (with_reducible first | exact HB.out | apply below_alloc | apply pw_below_drewN | apply below_drew1) | exact HB.out)) hb); clear HB; have HB := n0_; clear n0_; (try clear hb); (try clear hb2); (try clear hk); (try clear hi)) | ((with_reducible refine gate_callee (f := 27) rfl ?_); refine goesL_ (some 11) rfl rfl Try.func27 (by kernel_rfl) rfl #[.string a0] rfl (by (try simp only [List.map_toArray, List.map_cons, List.map_nil]); first | done | rfl | (simp only [List.length_drop, List.length_take]; rfl)) ?_; (with_reducible refine (words_Class.calls a0 false _ A7.out).mono ?_); rintro e w12 ⟨rfl, hb⟩; refine ⟨_, rfl, ?_⟩; have n0_ := Aside0.mk (below_step (by repeat (first | (with_reducible first | exact HB.out | apply below_alloc | apply pw_below_drewN | apply below_drew1) | exact HB.out)) hb); clear HB; have HB := n0_; clear n0_; (try clear hb); (try clear hb2); (try clear hk); (try clear hi)))
    go_ret
    exact ⟨by first | rfl | (simp [errW_none, errW_some] <;> rfl) | (simp [*, errW_none, errW_some] <;> rfl), by repeat (first | (with_reducible first | exact HB.out | apply below_alloc | apply pw_below_drewN | apply below_drew1) | exact HB.out)⟩
end Go.Proofs.Ytinkbljjpafadaa.PAll
end

section
namespace Go.Proofs.Ytinkbljjpafadaa.PAll
open Go.RowKit Go.Proofs.YtinkbljjpafadaaW.PrintWords Go.Proofs.YtinkbljjpafadaaW.PrintLast Go.Proofs.YtinkbljjpafadaaW.PrintMore
attribute [local go_sem] max2_int min2_int max_two min_two max_three min_three max_four min_four   -- for this text's walks alone
set_option linter.unusedVariables false
set_option linter.unusedSimpArgs false
def api_Layer_52.f (l0 : List (S35)) : Option (List (S35)) := if l0.length < 4398046511104 then some l0 else none
theorem api_Layer_52.infoL : (Try.prog.info? 35).map (fun i => (i.zero, i.size, i.bytes)) = some (some (.agg #[(.bool false), (.string ⟨#[]⟩), (.int .i64 0)]), 3, 32) := by kernel_rfl
theorem api_Layer_52.empty {α : Type} (d : Kd α) (W : World) (e base : Nat) (hb : base ≤ W.heap.size) : d.R e (W.alloc (.cells #[] e)) base (fun _ => True) (.slice (some ⟨W.heap.size, 0, none⟩) 0 0) [] :=
 ⟨fun _ _ => trivial, OwnRow.lit (ps := []) (inner := []) W base (Reps.none _ _) hb (by simp)⟩
set_option maxHeartbeats 2000000 in
set_option maxRecDepth 100000 in
theorem api_Layer_52.calls (A0 : Option Addr) (c0 : Nat) (l0 : List (S35)) (r : List (S35)) (w : World) (hr0 : Kd.C k35 w A0 l0.length l0) (hc0 : l0.length ≤ c0) (h : api_Layer_52.f l0 = some r) :
  Calls Try.prog 52 #[.slice A0 l0.length c0] w fun e w' => ∃ v0_ : Value, e = .returned (v0_) ∧ Kd.R k35 35 w' w.heap.size (fun _ => True) v0_ r ∧ Below w.heap.size w w' := by
 unfold api_Layer_52.f at h
 have hl : l0.length < 4398046511104 := by
  by_cases hl : l0.length < 4398046511104
  ·
   exact hl
  ·
   rw [if_neg hl] at h; cases h
 rw [if_pos hl] at h
 obtain rfl := Option.some.inj h
 clear h
 have q59 : ∀ (w : World) (a : Option Addr) (n c n' c' : Nat), (binOp .eql 25 (.slice a n c) (.slice none n' c')).run Try.prog w = .ok (.bool a.isNone) w := fun w a n c n' c' => Lib.run_eql_slice_nil w _ _ a n c n' c' Try.underlying25
 have HR0 := Aside0.mk hr0
 cases A0 with
 | none =>
  have hl0 : l0 = [] := by
   have h0 : l0.length = 0 := by
    rcases Nat.eq_zero_or_pos l0.length with h0 | h0
    ·
     exact h0
    ·
     obtain ⟨ad, h, _⟩ := hr0.2.2 h0
     cases h
   exact List.eq_nil_of_length_eq_zero h0
  subst hl0
  clear hr0
  go_enter Try.func52, Try.ntmps52
  go_wp2_with fail
  go_ret
  exact ⟨_, rfl, Kd.R_nil _ _ _ _ _, Below.refl _ _⟩
 | some ad =>
  clear hr0
  go_enter Try.func52, Try.ntmps52
  go_wp2_with ((with_reducible refine gate_dst (N := 7) rfl ?_); refine Kd.R_append_rows k35 (Rr := k35.K w) (w0 := w) (W := w.alloc (.cells #[] 35)) w.heap.size rfl (.tmp 5) (.tmp 6) 25 35 (.agg #[(.bool false), (.string ⟨#[]⟩), (.int .i64 0)]) 32 rfl Try.underlying25 api_Layer_52.infoL rfl (by decide) (by omega) (.slice (some ⟨w.heap.size, 0, none⟩) 0 0) [] l0 (some ad) l0.length c0 (fun _ => True) (fun _ => False) rfl rfl (api_Layer_52.empty _ _ _ _ (Nat.le_refl _)) (Kd.C_alloc HR0.out _) (fun _ _ h => h) (fun _ h => h.elim) (fun _ _ => trivial) ((Below.refl _ _).alloc (Nat.le_refl _) _) ?aS ?aL ?_; (case aS => simp); (case aL => simp; omega); intro v1 w4 ho4 hb4 _ _; have HO4 := Aside0.mk ho4; have HB4 := Aside0.mk hb4; clear ho4 hb4)
  go_ret
  exact ⟨_, rfl, HO4.out, HB4.out⟩
def chain_of.f (a0_0 : Bool) (a0_1 : ByteArray) (a0_2 : Int) : Option (Bool × ByteArray) := some (a0_0, a0_1)
set_option maxHeartbeats 8000000 in
set_option maxRecDepth 100000 in
theorem chain_of.calls (a0_0 : Bool) (a0_1 : ByteArray) (a0_2 : Int) (r1 : Bool) (r2 : ByteArray) (w : World) (h : chain_of.f a0_0 a0_1 a0_2 = some (r1, r2)) :
  Calls Try.prog 72 #[.agg #[.bool a0_0, .string a0_1, .int .i64 a0_2]] w fun e w' => e = .returned (.agg #[.bool r1, .string r2]) ∧ Below w.heap.size w w' := by
 have hu35 := Try.underlying35
 have hu131 := Try.underlying131
 have HB := Aside0.mk (Below.refl w.heap.size w)
 have H : (some (a0_0, a0_1)) = some (r1, r2) := h
 clear h
 simp only [Option.some.injEq, Prod.mk.injEq] at H
 obtain ⟨rfl, rfl⟩ := H
 go_enter Try.func72, Try.ntmps72
 go_wp2_with (first | ((with_reducible refine gate_dst (N := 1) rfl ?_); refine box_event ?hg (N := 1) ?hd (cs := #[.bool a0_0, .string a0_1, .int .i64 a0_2]) (t := 35) ?hr ?_; (case hd => rfl); (case hg => rfl); (case hr => first | (go_simp; done) | (go_simp; rfl)); intro gb156 hg w2 hbox hb; have n0_ := Aside0.mk (below_step (by repeat (first | (with_reducible first | exact HB.out | apply below_alloc | apply pw_below_drewN | apply below_drew1) | exact HB.out)) hb); have n1_ := Aside0.mk (hbox); have n2_ := Aside0.mk ((by rw [hg]; exact (below_size (by repeat (first | (with_reducible first | exact HB.out | apply below_alloc | apply pw_below_drewN | apply below_drew1) | exact HB.out))) : w.heap.size ≤ gb156)); have n3_ := Aside0.mk ((by rw [hg]; exact (below_size (by repeat (first | (with_reducible first | exact HB.out | apply below_alloc | apply pw_below_drewN | apply below_drew1) | exact HB.out))) : w.heap.size ≤ gb156)); clear HB; have HB := n0_; have BK156 := n1_; have GW156 := n2_; have GE156 := n3_; clear n0_ n1_ n2_ n3_; clear hb hbox hg) | ((with_reducible refine gate_dst (N := 2) rfl ?_); refine box_event ?hg (N := 2) ?hd (cs := #[.bool false, .string (⟨#[]⟩ : ByteArray)]) (t := 131) ?hr ?_; (case hd => rfl); (case hg => rfl); (case hr => first | (go_simp; done) | (go_simp; rfl)); intro gb157 hg w3 hbox hb; have n0_ := Aside0.mk (blk_below (g := gb156) (o := .cells #[.bool a0_0, .string a0_1, .int .i64 a0_2] 35 (0, 0)) (by (with_reducible repeat (first | refine blk_drewN ?_ _ | refine blk_drew ?_ | refine blk_alloc ?_ _)); exact BK156.out) hb); have n1_ := Aside0.mk (below_step (by repeat (first | (with_reducible first | exact HB.out | apply below_alloc | apply pw_below_drewN | apply below_drew1 | refine below_set ?_ GE156.out) | exact HB.out)) hb); have n2_ := Aside0.mk (hbox); have n3_ := Aside0.mk ((by rw [hg]; exact (below_size (by repeat (first | (with_reducible first | exact HB.out | apply below_alloc | apply pw_below_drewN | apply below_drew1 | refine below_set ?_ GE156.out) | exact HB.out))) : w.heap.size ≤ gb157)); have n4_ := Aside0.mk ((by rw [hg]; exact (below_size (by repeat (first | (with_reducible first | exact HB.out | apply below_alloc | apply pw_below_drewN | apply below_drew1 | refine below_set ?_ GE156.out) | exact HB.out))) : w.heap.size ≤ gb157)); have n5_ := Aside0.mk ((by rw [hg]; exact Nat.ne_of_lt (blk_lt (g := gb156) (o := .cells #[.bool a0_0, .string a0_1, .int .i64 a0_2] 35 (0, 0)) (by (with_reducible repeat (first | refine blk_drewN ?_ _ | refine blk_drew ?_ | refine blk_alloc ?_ _)); exact BK156.out)) : gb156 ≠ gb157)); have n6_ := Aside0.mk ((by rw [hg]; exact Nat.ne_of_gt (blk_lt (g := gb156) (o := .cells #[.bool a0_0, .string a0_1, .int .i64 a0_2] 35 (0, 0)) (by (with_reducible repeat (first | refine blk_drewN ?_ _ | refine blk_drew ?_ | refine blk_alloc ?_ _)); exact BK156.out)) : gb157 ≠ gb156)); clear BK156; clear HB; have BK156 := n0_; have HB := n1_; have BK157 := n2_; have GW157 := n3_; have GE157 := n4_; have NB156_157 := n5_; have NB157_156 := n6_; clear n0_ n1_ n2_ n3_ n4_ n5_ n6_; clear hb hbox hg; have hnb4 := NB156_157.out; have hnc4 := NB157_156.out; have hcz5_0 : w3.cell? ⟨gb156, 0, none⟩ = some (.bool a0_0) := (blk_cell BK156.out 0).trans rfl; have hcz5_1 : w3.cell? ⟨gb156, 1, none⟩ = some (.string a0_1) := (blk_cell BK156.out 1).trans rfl; have hcz5_2 : w3.cell? ⟨gb156, 2, none⟩ = some (.int .i64 a0_2) := (blk_cell BK156.out 2).trans rfl; have hfz5_0 := blk_frozen BK156.out 0; have hfz5_1 := blk_frozen BK156.out 1; have hfz5_2 := blk_frozen BK156.out 2; have hcz6_0 : w3.cell? ⟨gb157, 0, none⟩ = some (.bool false) := (blk_cell BK157.out 0).trans rfl; have hcz6_1 : w3.cell? ⟨gb157, 1, none⟩ = some (.string (⟨#[]⟩ : ByteArray)) := (blk_cell BK157.out 1).trans rfl; have hfz6_0 := blk_frozen BK157.out 0; have hfz6_1 := blk_frozen BK157.out 1))
 refine bodyPost_ret (results_cell_row rfl _ _ gb157 131 #[.bool a0_0, .string a0_1] (0, 0) _ rfl (by (with_reducible repeat (first | refine blk_drewN ?_ _ | refine blk_drew ?_ | refine blk_alloc ?_ _)); refine blk_put (cs := #[.bool a0_0, .string (⟨#[]⟩ : ByteArray)]) ?_ 1 _ rfl; (with_reducible repeat (first | refine blk_drewN ?_ _ | refine blk_drew ?_ | refine blk_alloc ?_ _)); refine blk_put (cs := #[.bool false, .string (⟨#[]⟩ : ByteArray)]) ?_ 0 _ rfl; (with_reducible repeat (first | refine blk_drewN ?_ _ | refine blk_drew ?_ | refine blk_alloc ?_ _)); exact BK157.out) Try.underlying131 rfl (by kernel_rfl)) rfl ?_
 exact ⟨by first | rfl | (simp [errW_none, errW_some] <;> rfl) | (simp [*, errW_none, errW_some] <;> rfl), by repeat (first | (with_reducible first | exact HB.out | apply below_alloc | apply pw_below_drewN | apply below_drew1 | refine below_set ?_ GE156.out | refine below_set ?_ GE157.out) | exact HB.out)⟩
end Go.Proofs.Ytinkbljjpafadaa.PAll
end

section
namespace Go.Proofs.Ytinkbljjpafadaa.PAll
open Go.RowKit Go.Proofs.YtinkbljjpafadaaW.PrintWords Go.Proofs.YtinkbljjpafadaaW.PrintLast Go.Proofs.YtinkbljjpafadaaW.PrintMore
attribute [local go_sem] max2_int min2_int max_two min_two max_three min_three max_four min_four   -- for this text's walks alone
set_option linter.unusedVariables false
set_option linter.unusedSimpArgs false
open Go.Proofs.YtinkbljjpafadaaRF Go.Proofs.YtinkbljjpafadaaHChain in
def chain_Norm.lay (l : List (S35)) (i : Nat) : Lay := ((l.getD i z35).f0, (l.getD i z35).f1, (l.getD i z35).f2)
open Go.Proofs.YtinkbljjpafadaaHChain in
def chain_Norm.ms (l : List (S35)) : List Bool := marked (chain_Norm.lay l) l.length true (marked (chain_Norm.lay l) l.length false (List.replicate l.length false))
def chain_Norm.sel : List (S35) → List Bool → List (S35)
 | x :: r, b :: s => if b = true then x :: chain_Norm.sel r s else chain_Norm.sel r s
 | _, _ => []
theorem chain_Norm.sel_snoc : ∀ (l : List (S35)) (s : List Bool) (x : S35) (b : Bool), l.length = s.length → chain_Norm.sel (l ++ [x]) (s ++ [b]) = chain_Norm.sel l s ++ if b = true then [x] else []
 | [], [], x, b, _ => by cases b <;> simp [chain_Norm.sel]
 | [], _ :: _, _, _, h => by simp at h
 | _ :: _, [], _, _, h => by simp at h
 | y :: r, c :: s, x, b, h => by
  have ih := chain_Norm.sel_snoc r s x b (by simpa using h)
  cases c <;> simp [chain_Norm.sel, ih]
theorem chain_Norm.sel_len : ∀ (l : List (S35)) (s : List Bool), (chain_Norm.sel l s).length ≤ l.length
 | [], _ => by simp [chain_Norm.sel]
 | _ :: _, [] => by simp [chain_Norm.sel]
 | y :: r, c :: s => by
  have ih := chain_Norm.sel_len r s
  cases c <;> simp [chain_Norm.sel] <;> omega
def chain_Norm.f (l0 : List (S35)) : Option (List (S35)) := if l0.length < 4398046511104 then some (chain_Norm.sel l0 (chain_Norm.ms l0)) else none
theorem chain_Norm.infoK : (Try.prog.info? 100).map (fun i => (i.zero, i.size, i.bytes)) = some (some (.agg #[.bool false]), 1, 1) := by kernel_rfl
theorem chain_Norm.infoL : (Try.prog.info? 35).map (fun i => (i.zero, i.size, i.bytes)) = some (some (.agg #[(.bool false), (.string ⟨#[]⟩), (.int .i64 0)]), 3, 32) := by kernel_rfl
theorem chain_Norm.made (N : Nat) : madeCells #[.bool false] N = (List.replicate N (Value.bool false)).toArray := by
 refine Array.ext (by simp [madeCells]) fun i h1 h2 => ?_
 simp [madeCells, Nat.mod_one]
theorem chain_Norm.make (N : Nat) (hN : N < 4398046511104) (w : World) : (Instr.makeSlice 97 (.int .i64 (N : Int)) (.int .i64 (N : Int))).run Try.prog w = .ok (.slice (some ⟨w.heap.size, 0, none⟩) N N) (w.alloc (.cells ((List.replicate N false).map Value.bool).toArray 100)) := by
 obtain ⟨i0, hi, hzz⟩ := Option.map_eq_some_iff.1 chain_Norm.infoK
 simp only [Prod.mk.injEq] at hzz
 obtain ⟨hz0, hz1, hz2⟩ := hzz
 have := run_make (P := Try.prog) w 97 100 i0 (.agg #[.bool false]) Try.underlying97 hi hz0 .i64 .i64 (N : Int) (N : Int) (by omega) (by omega) (by rw [hz2]; omega) (by omega)
 rw [this, hz1]
 simp only [Int.toNat_natCast, Nat.mul_one, List.map_replicate]
 rw [show Value.cells (.agg #[.bool false]) = #[.bool false] from rfl, chain_Norm.made]
open Go.Proofs.YtinkbljjpafadaaRF Go.Proofs.YtinkbljjpafadaaHChain in
set_option maxHeartbeats 400000 in
theorem chain_Norm.calls (A0 : Option Addr) (c0 : Nat) (l0 : List (S35)) (r : List (S35)) (w : World) (hr0 : Kd.C k35 w A0 l0.length l0) (hc0 : l0.length ≤ c0) (h : chain_Norm.f l0 = some r) :
  Calls Try.prog 39 #[.slice A0 l0.length c0] w fun e w' => ∃ v0_ : Value, e = .returned (v0_) ∧ Kd.R k35 35 w' w.heap.size (fun _ => True) v0_ r ∧ Below w.heap.size w w' := by
 unfold chain_Norm.f at h
 have hlen : l0.length < 4398046511104 := by
  by_cases hl : l0.length < 4398046511104
  ·
   exact hl
  ·
   rw [if_neg hl] at h; cases h
 rw [if_pos hlen] at h
 obtain rfl := Option.some.inj h
 clear h
 have hrd : RdL w.heap.size w A0 l0.length (chain_Norm.lay l0) := fun i hi => by
  obtain ⟨ad, e, h0, h1, h2⟩ := at_T35 hr0 (i : Int) (by omega) (by omega)
  rw [Int.toNat_natCast] at h0 h1 h2
  exact ⟨ad, e, by have := World.block_lt_of_cell? w _ h0; rwa [Go.Proofs.YtinkbljjpafadaaHChain.add_block] at this, h0, h1, h2⟩
 obtain ⟨N, hNl⟩ : ∃ N, N = l0.length := ⟨_, rfl⟩
 have hmk := chain_Norm.make N (by omega)
 have HR0 := Aside0.mk hr0
 have HRD := Aside0.mk hrd
 have HNL := Aside0.mk hNl
 rw [← hNl] at hlen hc0 hrd ⊢
 clear hr0 hNl
 go_enter Try.func39, Try.ntmps39
 go_wp2_with fail
 have hmsl : (List.replicate N false).length = N := by simp
 rw [show (Array.replicate N (Value.bool false)) = ((List.replicate N false).map Value.bool).toArray by simp]
 refine (marks_calls w.heap.size N c0 (by omega) A0 (chain_Norm.lay l0) false (List.replicate N false) hmsl _ w.heap.size N (hrd.below ((Below.refl _ w).alloc (Nat.le_refl _) _)) (Nat.le_refl _) (at_new _ _ rfl)).mono ?_
 rintro e w1 ⟨rfl, hm1, hrow1⟩
 have HM1 := Aside0.mk hm1
 have HROW1 := Aside0.mk hrow1
 clear hm1 hrow1 hrd hmk hmsl
 go_wp2_with fail
 have hb1 : Below w.heap.size w w1 := ((Below.refl _ w).alloc (Nat.le_refl _) _).trans (HM1.out.below (by simp) (fun k e => by omega))
 have hl1 : (marked (chain_Norm.lay l0) N false (List.replicate N false)).length = N := by simp [marked, Go.Proofs.YtinkbljjpafadaaHChain.rowAt]
 refine (marks_calls w.heap.size N c0 (by omega) A0 (chain_Norm.lay l0) true (marked (chain_Norm.lay l0) N false (List.replicate N false)) hl1 _ w.heap.size N ((HNL.out ▸ HRD.out).below hb1) (Nat.le_refl _) HROW1.out).mono ?_
 rintro e w2 ⟨rfl, hm2, hrow2⟩
 have HB2 := Aside0.mk (hb1.trans (hm2.below (hb1.size) (fun k e => by omega)))
 have HROW2 := Aside0.mk hrow2
 clear hm2 hrow2 hb1 hl1 HM1 HROW1
 obtain ⟨M, hM⟩ : ∃ M, M = marked (chain_Norm.lay l0) N true (marked (chain_Norm.lay l0) N false (List.replicate N false)) := ⟨_, rfl⟩
 have HMS := Aside0.mk (show chain_Norm.ms l0 = M by rw [hM, HNL.out]; rfl)
 have HML := Aside0.mk (show M.length = N by rw [hM]; simp [marked, Go.Proofs.YtinkbljjpafadaaHChain.rowAt])
 have HROW := Aside0.mk (show w2.heap[w.heap.size]? = some (.cells (M.map Value.bool).toArray 100 (0, 0)) by rw [hM]; exact HROW2.out)
 clear hM HROW2 HRD
 go_wp2_with fail
 go_loopw [2, 17] (fun v2 v17 wr => ∃ k : Nat, k ≤ N ∧ v17 = .int .i64 k ∧ Aside0 (Kd.R k35 35 wr w.heap.size (fun b => b ≠ w.heap.size) v2 (chain_Norm.sel (l0.take k) (M.take k)) ∧ Below w.heap.size w wr ∧ wr.heap[w.heap.size]? = some (.cells (M.map Value.bool).toArray 100 (0, 0))))
  (fun _ v17 _ => N - (intOf v17).toNat)
 case atStart => exact ⟨0, Nat.zero_le _, rfl, ⟨Kd.R_nil _ _ _ _ _, HB2.out, HROW.out⟩⟩
 case round =>
  obtain ⟨k, hk, rfl, ⟨ho, hb, hrow⟩⟩ := hrel
  have HO := Aside0.mk ho
  have HB := Aside0.mk hb
  have HRW := Aside0.mk hrow
  clear ho hb hrow HB2 HROW
  by_cases hlt : k < N
  ·
   obtain ⟨ad, e, hx0, hx1, hx2⟩ := at_T35 (Kd.C_below HR0.out HB.out) (k : Int) (by omega) (by have := HNL.out; omega)
   rw [Int.toNat_natCast] at hx0 hx1 hx2
   cases e
   obtain ⟨x, hxE⟩ : ∃ x, x = rd_T35 l0 (k : Int) := ⟨_, rfl⟩
   rw [← hxE] at hx0 hx1 hx2
   have hxg : l0[k]? = some x := by
    rw [hxE]; unfold rd_T35
    rw [Int.toNat_natCast, List.getD_eq_getElem?_getD, List.getElem?_eq_getElem (by rw [← HNL.out]; exact hlt)]; rfl
   have hcm := cell_at (at_alloc HRW.out (.cells #[.bool x.f0, .string x.f1, .int .i64 x.f2] 35)) k
   obtain ⟨b, hbE⟩ : ∃ b, M[k]? = some b := ⟨_, List.getElem?_eq_getElem (by rw [HML.out]; exact hlt)⟩
   rw [List.getElem?_toArray, List.getElem?_map, hbE, Option.map_some] at hcm
   have hsel : chain_Norm.sel (l0.take (k + 1)) (M.take (k + 1)) = chain_Norm.sel (l0.take k) (M.take k) ++ if b = true then [x] else [] := by
    rw [List.take_add_one, List.take_add_one, hxg, hbE]
    exact chain_Norm.sel_snoc _ _ _ _ (by rw [List.length_take, List.length_take, HML.out, ← HNL.out])
   have hsl : (chain_Norm.sel (l0.take k) (M.take k)).length ≤ k := Nat.le_trans (chain_Norm.sel_len _ _) (List.length_take_le _ _)
   have HSEL := Aside0.mk hsel
   have HSL := Aside0.mk hsl
   have hsz : w.heap.size < wr.heap.size := lt_of_at HRW.out
   have HSZ := Aside0.mk hsz
   have hu1 := Try.underlying35
   have hu2 := Try.underlying100
   clear hxE hxg hbE hsel hsl hsz
   cases b
   ·
    go_wp2
    go_roundw
    case rel => exact ⟨k + 1, by omega, by go_num, ⟨by rw [HSEL.out]; simpa using Kd.R_alloc HO.out _, HB.out.alloc (Nat.le_of_lt HSZ.out) _, at_alloc HRW.out _⟩⟩
    case measure => simp [intOf]; omega
   ·
    go_wp2_with ((with_reducible refine gate_builtin (b := .append) (xs := #[.tmp 27, .tmp 29]) rfl ?_); at_builtin; (refine Kd.R_append k35 (w0 := w) (W := wr.alloc (.cells #[.bool x.f0, .string x.f1, .int .i64 x.f2] 35)) w.heap.size rfl (.tmp 27) (.tmp 29) 25 35 (.agg #[(.bool false), (.string ⟨#[]⟩), (.int .i64 0)]) 32 rfl Try.underlying25 chain_Norm.infoL rfl (by decide) (by omega) _ (chain_Norm.sel (l0.take k) (M.take k)) x [.bool x.f0, .string x.f1, .int .i64 x.f2] (fun b => b ≠ w.heap.size) (fun _ => False) rfl (by simp [Act.eval]) ?aP (fun _ hk => hk.elim) ?aF ?aO ?aB ?aS ?aL ?_); (case aP => exact k35_mkM _ _ _ x); (case aB => exact HB.out.alloc (Nat.le_of_lt HSZ.out) _); (case aF => intro j hj hje; have h1 := HSZ.out; simp at hj; omega); (case aO => exact Kd.R_alloc HO.out _); (case aS => have h1 := HSZ.out; simp; omega); (case aL => have h1 := HSL.out; omega); intro v1 w4 ho4 hb4 hg4 hat4; have HO4 := Aside0.mk ho4; have HB4 := Aside0.mk hb4; have HRW4 := Aside0.mk (show w4.heap[w.heap.size]? = some (.cells (M.map Value.bool).toArray 100 (0, 0)) from (hg4.block _ (by have h1 := HSZ.out; simp; omega) (fun e => HO.out.1 _ e.symm rfl)).trans (at_alloc HRW.out _)); clear ho4 hb4 hg4 hat4)
    go_roundw
    case rel => exact ⟨k + 1, by omega, by go_num, ⟨by rw [HSEL.out]; exact HO4.out, HB4.out, HRW4.out⟩⟩
    case measure => simp [intOf]; omega
  ·
   have hkN : k = N := by omega
   have HK := Aside0.mk hkN
   clear hkN
   go_wp2
   go_ret
   refine ⟨_, rfl, ?_, HB.out⟩
   have := HO.out
   rw [HK.out, List.take_of_length_le (by rw [HNL.out]; exact Nat.le_refl _), List.take_of_length_le (by rw [HML.out]; exact Nat.le_refl _)] at this
   rw [HMS.out]
   exact Kd.R_mono this (fun _ _ => trivial)
end Go.Proofs.Ytinkbljjpafadaa.PAll
end

section
namespace Go.Proofs.Ytinkbljjpafadaa.PAll
open Go.RowKit Go.Proofs.YtinkbljjpafadaaW.PrintWords Go.Proofs.YtinkbljjpafadaaW.PrintLast Go.Proofs.YtinkbljjpafadaaW.PrintMore
attribute [local go_sem] max2_int min2_int max_two min_two max_three min_three max_four min_four   -- for this text's walks alone
set_option linter.unusedVariables false
set_option linter.unusedSimpArgs false
def api_Layer_85.f (l0 : List (List (S35))) : Option (List (S35)) := if l0.length + l0.flatten.length < 4398046511104 then some l0.flatten else none
theorem api_Layer_85.infoL : (Try.prog.info? 35).map (fun i => (i.zero, i.size, i.bytes)) = some (some (.agg #[(.bool false), (.string ⟨#[]⟩), (.int .i64 0)]), 3, 32) := by kernel_rfl
theorem api_Layer_85.lens (l : List (List (S35))) (k : Nat) : (l.take k).flatten.length ≤ l.flatten.length := by
 conv => rhs; rw [← List.take_append_drop k l, List.flatten_append, List.length_append]
 omega
theorem api_Layer_85.snoc {l : List (List (S35))} {k : Nat} {x : List (S35)} (h : l[k]? = some x) : (l.take (k + 1)).flatten = (l.take k).flatten ++ x := by
 rw [List.take_add_one, h]; simp
theorem api_Layer_85.grow (n : Nat) (hn : n < 4398046511104) (w : World) : Calls Try.prog 90 #[.slice none 0 0, .int .i64 (n : Int)] w fun e w' => ∃ v0_ : Value, e = .returned (v0_) ∧ Kd.R k35 35 w' w.heap.size (fun _ => True) v0_ [] ∧ Below w.heap.size w w' := by
 by_cases h0 : n = 0
 ·
  subst h0
  go_enter Try.func90, Try.ntmps90
  go_wp2
  go_ret
  exact ⟨_, rfl, Kd.R_nil _ _ _ _ _, Below.refl _ _⟩
 ·
  have hpos : 0 < n := by omega
  have hz : Kd.M k35 w w.heap.size (fun _ => False) z35 (Value.agg #[(.bool false), (.string ⟨#[]⟩), (.int .i64 0)]).cells.toList := k35_mkM _ _ _ _
  have HZ := Aside0.mk hz
  clear h0 hz
  go_enter Try.func90, Try.ntmps90
  go_wp2_with ((with_reducible refine gate_builtin (b := .append) (xs := #[.tmp 20, .tmp 21]) rfl ?_); at_builtin; (refine Kd.R_append_zeros k35 (w0 := w) w.heap.size rfl (.tmp 20) (.tmp 21) 25 3 35 (.agg #[(.bool false), (.string ⟨#[]⟩), (.int .i64 0)]) 32 rfl Try.underlying25 Try.underlying3 api_Layer_85.infoL rfl (by decide) (by omega) (.slice none 0 0) [] z35 (n : Int) (fun _ => True) rfl rfl HZ.out (fun _ _ => trivial) (Kd.R_nil _ _ _ _ _) (by omega) (Below.refl _ _) (Nat.le_refl _) (by simp; omega) ?_); intro v1 w1 ho hb _ hat; obtain ⟨A1, c1, hv1, hle1, hc1⟩ := Kd.R_reads ho; subst hv1; have HO := Aside0.mk ho; have HB := Aside0.mk hb; have hc1' : 0 ≤ c1 := Nat.zero_le _; clear ho hb hat hc1; simp only [List.nil_append, List.length_replicate, Int.toNat_natCast] at hle1 ⊢)
  go_ret
  exact ⟨_, rfl, by have := Kd.R_take (m := 0) HO.out (Nat.zero_le _); simpa using this, HB.out⟩
set_option maxHeartbeats 1000000 in
theorem api_Layer_85.calls (A0 : Option Addr) (c0 : Nat) (l0 : List (List (S35))) (r : List (S35)) (w : World) (hr0 : Kd.C (Kd.slice 35 k35) w A0 l0.length l0) (hc0 : l0.length ≤ c0) (h : api_Layer_85.f l0 = some r) :
  Calls Try.prog 85 #[.slice A0 l0.length c0] w fun e w' => ∃ v0_ : Value, e = .returned (v0_) ∧ Kd.R k35 35 w' w.heap.size (fun _ => True) v0_ r ∧ Below w.heap.size w w' := by
 unfold api_Layer_85.f at h
 have hlen : l0.length + l0.flatten.length < 4398046511104 := by
  by_cases hl : l0.length + l0.flatten.length < 4398046511104
  ·
   exact hl
  ·
   rw [if_neg hl] at h; cases h
 rw [if_pos hlen] at h
 obtain rfl := Option.some.inj h
 clear h
 obtain ⟨N, hNl⟩ : ∃ N, N = l0.length := ⟨_, rfl⟩
 obtain ⟨S, hSl⟩ : ∃ S, S = l0.flatten.length := ⟨_, rfl⟩
 have HNL := Aside0.mk hNl
 have HSL := Aside0.mk hSl
 rw [← hSl, ← hNl] at hlen
 rw [← hNl] at hr0 hc0 ⊢
 have HR0 := Aside0.mk hr0
 clear hr0 hNl hSl
 go_enter Try.func85, Try.ntmps85
 go_wp2_with fail
 go_loopw [3, 5, 11] (fun v3 _ v11 wr => ∃ k : Nat, k ≤ N ∧ v11 = .int .i64 k ∧ v3 = .int .i64 ((l0.take k).flatten.length : Nat) ∧ Aside0 (wr = w))
  (fun _ _ v11 _ => N - (intOf v11).toNat)
 case atStart => exact ⟨0, Nat.zero_le _, rfl, rfl, ⟨rfl⟩⟩
 case round =>
  obtain ⟨k, hk, rfl, rfl, ⟨hW⟩⟩ := hrel
  subst wr
  have hle := api_Layer_85.lens l0 k
  rw [← HSL.out] at hle
  obtain ⟨T, hT⟩ : ∃ T, T = (l0.take k).flatten.length := ⟨_, rfl⟩
  rw [← hT] at hle ⊢
  by_cases hlt : k < N
  ·
   obtain ⟨ad, c, hx0, hx1, hx2, hx3⟩ := Kd.C_get HR0.out [] (k : Int) (by omega) (by omega)
   rw [Int.toNat_natCast] at hx2 hx3
   obtain ⟨A, m, rfl, hm, hC⟩ := hx2
   have hx4 := hx3 0 _ rfl
   rw [show (Kd.slice 35 k35).sz = 1 from rfl, Nat.mul_one, Nat.add_zero] at hx4
   have hg : l0[k]? = some (l0.getD k []) := by
    rw [List.getD_eq_getElem?_getD, List.getElem?_eq_getElem (by rw [← HNL.out]; exact hlt)]; rfl
   have hsn : (l0.take (k + 1)).flatten.length = T + (l0.getD k []).length := by
    rw [api_Layer_85.snoc hg, List.length_append, hT]
   have hle1 := api_Layer_85.lens l0 (k + 1)
   rw [hsn, ← HSL.out] at hle1
   have HSN := Aside0.mk hsn
   obtain ⟨X, hX⟩ : ∃ X, X = (l0.getD k []).length := ⟨_, rfl⟩
   have HX := Aside0.mk hX
   rw [← hX] at hx4 hle1 hm
   clear hx3 hC hg hsn hT hX
   cases hx0
   go_wp2
   go_roundw
   case rel => exact ⟨k + 1, by omega, by go_num, by rw [HSN.out, ← HX.out]; go_num, ⟨by first | trivial | rfl⟩⟩
   case measure => simp [intOf]; omega
  ·
   have hkN : k = N := by omega
   have HK := Aside0.mk hkN
   have hTS : T = S := by rw [hT, hkN, HNL.out, List.take_length, HSL.out]
   clear hkN hT
   subst hTS
   go_wp2_with fail
   refine (api_Layer_85.grow T (by omega) w).mono ?_
   rintro e w1 ⟨v, rfl, ho, hb⟩
   have HO := Aside0.mk ho
   have HB := Aside0.mk hb
   clear ho hb
   go_wp2_with fail
   go_loopw [6, 8, 27] (fun v6 _ v27 wr => ∃ k : Nat, k ≤ N ∧ v27 = .int .i64 k ∧ Aside0 (Kd.R k35 35 wr w.heap.size (fun _ => True) v6 (l0.take k).flatten ∧ Below w.heap.size w wr))
    (fun _ _ v27 _ => N - (intOf v27).toNat)
   case atStart => exact ⟨0, Nat.zero_le _, rfl, ⟨by simpa using HO.out, HB.out⟩⟩
   case round =>
    obtain ⟨k2, hk2, rfl, ⟨ho, hb⟩⟩ := hrel
    have HO2 := Aside0.mk ho
    have HB2 := Aside0.mk hb
    clear ho hb
    by_cases hlt2 : k2 < N
    ·
     have hrr := Kd.C_below HR0.out HB2.out
     obtain ⟨ad, c, hx0, hx1, hx2, hx3⟩ := Kd.C_get hrr [] (k2 : Int) (by omega) (by omega)
     rw [Int.toNat_natCast] at hx2 hx3
     obtain ⟨A, m, rfl, hm, hC⟩ := hx2
     have hx4 := hx3 0 _ rfl
     rw [show (Kd.slice 35 k35).sz = 1 from rfl, Nat.mul_one, Nat.add_zero] at hx4
     have hg : l0[k2]? = some (l0.getD k2 []) := by
      rw [List.getD_eq_getElem?_getD, List.getElem?_eq_getElem (by rw [← HNL.out]; exact hlt2)]; rfl
     have hsn := api_Layer_85.snoc hg
     have hle1 := api_Layer_85.lens l0 (k2 + 1)
     rw [hsn, List.length_append, ← HSL.out] at hle1
     obtain ⟨X, hX⟩ : ∃ X, X = (l0.getD k2 []) := ⟨_, rfl⟩
     rw [← hX] at hx4 hle1 hm hC hsn
     have HC := Aside0.mk hC
     have HSN2 := Aside0.mk hsn
     have HLE := Aside0.mk hle1
     clear hx3 hC hg hsn hX hrr hle1
     cases hx0
     go_wp2_with ((with_reducible refine gate_builtin (b := .append) (xs := #[.tmp 31, .tmp 32]) rfl ?_); at_builtin; (refine Kd.R_append_rows k35 (w0 := w) (W := wr) w.heap.size rfl (.tmp 31) (.tmp 32) 25 35 (.agg #[(.bool false), (.string ⟨#[]⟩), (.int .i64 0)]) 32 rfl Try.underlying25 api_Layer_85.infoL rfl (by decide) (by omega) _ (l0.take k2).flatten X A X.length m (fun _ => True) (fun _ => False) rfl (by simp [Act.eval]) ?aO ?aR (fun _ _ h => h) (fun _ h => h.elim) ?aF ?aB ?aS ?aL ?_); (case aR => exact HC.out); (case aB => exact HB2.out); (case aF => exact (fun _ _ => trivial)); (case aO => exact HO2.out); (case aS => exact HB2.out.size); (case aL => have h1 := HLE.out; omega); intro v1 w4 ho4 hb4 _ _; have HO4 := Aside0.mk ho4; have HB4 := Aside0.mk hb4; clear ho4 hb4)
     go_roundw
     case rel => exact ⟨k2 + 1, by omega, by go_num, ⟨by rw [HSN2.out]; exact HO4.out, HB4.out⟩⟩
     case measure => simp [intOf]; omega
    ·
     have hkN2 : k2 = N := by omega
     have HK2 := Aside0.mk hkN2
     clear hkN2
     go_wp2
     go_ret
     refine ⟨_, rfl, ?_, HB2.out⟩
     have := HO2.out
     rw [HK2.out, List.take_of_length_le (by rw [HNL.out]; exact Nat.le_refl _)] at this
     exact this
end Go.Proofs.Ytinkbljjpafadaa.PAll
end

section
namespace Go.Proofs.Ytinkbljjpafadaa.PAll
open Go.RowKit Go.Proofs.YtinkbljjpafadaaW.PrintWords Go.Proofs.YtinkbljjpafadaaW.PrintLast Go.Proofs.YtinkbljjpafadaaW.PrintMore
attribute [local go_sem] max2_int min2_int max_two min_two max_three min_three max_four min_four   -- for this text's walks alone
set_option linter.unusedVariables false
set_option linter.unusedSimpArgs false
def chain_Merge.f (l0 : List (S35)) (l1 : List (S35)) : Option ((List (S35))) := (api_Layer_85.f (([l0, l1] : List (List (S35))))).bind fun t161 => ((chain_Norm.f t161).bind fun t164 => (some t164))
set_option maxHeartbeats 8000000 in
set_option maxRecDepth 100000 in
theorem chain_Merge.calls (P0_ : Nat → Prop) (A0 : Option Addr) (c0 : Nat) (l0 : List (S35)) (P1_ : Nat → Prop) (A1 : Option Addr) (c1 : Nat) (l1 : List (S35)) (r : List (S35)) (w : World) (hs0 : Kd.V k35 35 w w.heap.size (fun k_ => P0_ k_) (.slice A0 l0.length c0) l0) (hs1 : Kd.V k35 35 w w.heap.size (fun k_ => P1_ k_) (.slice A1 l1.length c1) l1) (h : chain_Merge.f l0 l1 = some r) :
  Calls Try.prog 77 #[.slice A0 l0.length c0, .slice A1 l1.length c1] w fun e w' => ∃ v0_ : Value, e = .returned (v0_) ∧ Kd.R k35 35 w' w.heap.size (fun k_ => (w.heap.size ≤ k_)) v0_ r ∧ Below w.heap.size w w' := by
 have HO0 := Aside0.mk (show Kd.V k35 35 w w.heap.size (fun k_ => ((P0_ k_ ∨ P1_ k_) ∨ w.heap.size ≤ k_)) (.slice A0 l0.length c0) l0 from Kd.V_mono hs0 (fun k_ hk => .inl (.inl hk)))
 have HO1 := Aside0.mk (show Kd.V k35 35 w w.heap.size (fun k_ => ((P0_ k_ ∨ P1_ k_) ∨ w.heap.size ≤ k_)) (.slice A1 l1.length c1) l1 from Kd.V_mono hs1 (fun k_ hk => .inl (.inr hk)))
 have HB := Aside0.mk (Below.refl w.heap.size w)
 have H : ((api_Layer_85.f (([l0, l1] : List (List (S35))))).bind fun t161 => ((chain_Norm.f t161).bind fun t164 => (some t164))) = some r := h
 clear h
 obtain ⟨y158, hy158⟩ : ∃ y_ : List (List (S35)), y_ = (([l0, l1] : List (List (S35)))) := ⟨_, rfl⟩
 replace H : ((api_Layer_85.f y158).bind fun t161 => ((chain_Norm.f t161).bind fun t164 => (some t164))) = some r := by first | (rw [hy158]; with_reducible exact H) | (have H2_ := (Option.bind_some _ _).symm.trans H; rw [hy158]; with_reducible exact H2_) | (have H2_ := (Option.bind_some _ _).symm.trans H; with_reducible exact H2_) | with_reducible exact H | (rw [hy158]; exact H) | exact H
 have Ny158 := Aside0.mk hy158
 clear hy158
 replace H := Option.bind_eq_some_iff.mp H
 obtain ⟨t161, A30, H⟩ := H
 replace H : ((chain_Norm.f t161).bind fun t164 => (some t164)) = some r := H
 have A3 := Aside0.mk A30
 clear A30
 replace H := Option.bind_eq_some_iff.mp H
 obtain ⟨t164, A40, H⟩ := H
 replace H : (some t164) = some r := H
 have A4 := Aside0.mk A40
 clear A40
 obtain rfl := Option.some.inj H
 go_enter Try.func77, Try.ntmps77
 go_wp2_with (first | ((with_reducible refine gate_dst (N := 7) rfl ?_); refine Kd.N_lit (Kd.slice 35 k35) _ 25 ?hg (N' := 7) ?hd (xs := ([l0, l1] : List (List (S35)))) (inner := [.slice A0 l0.length c0, .slice A1 l1.length c1]) (ok := (fun k_ => ((P0_ k_ ∨ P1_ k_) ∨ w.heap.size ≤ k_))) (okp := (fun k_ => ((P0_ k_ ∨ P1_ k_) ∨ w.heap.size ≤ k_))) ?hr ?hp (fun _ hk => hk) ((show ∀ k_, w.heap.size ≤ k_ → (fun k_ => ((P0_ k_ ∨ P1_ k_) ∨ w.heap.size ≤ k_)) k_ from fun k_ hk => (.inr (Nat.le_trans (below_size (by repeat (first | (with_reducible first | exact HB.out | apply below_alloc | apply pw_below_drewN | apply below_drew1) | exact HB.out))) hk))) _ (Nat.le_refl _)) (Below.refl _ _) (Nat.le_refl _) (by simp) ?_; (case hd => rfl); (case hg => rfl); (case hr => first | (go_simp; done) | (go_simp; rfl)); (case hp => exact (Reps.one (show Kd.FK (Kd.slice 35 k35) _ _ l0 [.slice A0 l0.length c0] from (Kd.FK_slice_mk (Kd.V_reads' (Kd.V_mono (ok' := (fun k_ => ((P0_ k_ ∨ P1_ k_) ∨ w.heap.size ≤ k_))) (HO0.out) (fun k_ hk => hk))).2.1 (Kd.V_F (Kd.V_mono (ok' := (fun k_ => ((P0_ k_ ∨ P1_ k_) ∨ w.heap.size ≤ k_))) (HO0.out) (fun k_ hk => hk))))) (Reps.one (show Kd.FK (Kd.slice 35 k35) _ _ l1 [.slice A1 l1.length c1] from (Kd.FK_slice_mk (Kd.V_reads' (Kd.V_mono (ok' := (fun k_ => ((P0_ k_ ∨ P1_ k_) ∨ w.heap.size ≤ k_))) (HO1.out) (fun k_ hk => hk))).2.1 (Kd.V_F (Kd.V_mono (ok' := (fun k_ => ((P0_ k_ ∨ P1_ k_) ∨ w.heap.size ≤ k_))) (HO1.out) (fun k_ hk => hk))))) (Reps.none _ _)))); intro v159 w5 ho6 hb hg_ hnew_; clear hg_ hnew_; (first | rw [← Ny158.out] at ho6 | (simp only [Int.reduceToNat] at ho6; rw [← Ny158.out] at ho6)); have n0_ := Aside0.mk (Kd.V_elder' (by (with_reducible repeat (first | apply Kd.V_alloc | apply Kd.V_drewN | apply Kd.V_drew)); exact HO0.out) (Kd.N_base ho6) hb); have n1_ := Aside0.mk (Kd.V_elder' (by (with_reducible repeat (first | apply Kd.V_alloc | apply Kd.V_drewN | apply Kd.V_drew)); exact HO1.out) (Kd.N_base ho6) hb); have n2_ := Aside0.mk (Kd.N_lower ho6 (below_size (by repeat (first | (with_reducible first | exact HB.out | apply below_alloc | apply pw_below_drewN | apply below_drew1) | exact HB.out)))); have n3_ := Aside0.mk (below_step (by repeat (first | (with_reducible first | exact HB.out | apply below_alloc | apply pw_below_drewN | apply below_drew1) | exact HB.out)) hb); clear HO0; clear HO1; clear HB; have HO0 := n0_; have HO1 := n1_; have HO160 := n2_; have HB := n3_; clear n0_ n1_ n2_ n3_; clear hb ho6; obtain ⟨Ao7, co7, eo7⟩ := Kd.N_slice HO160.out; subst eo7) | ((with_reducible refine gate_callee (f := 85) rfl ?_); refine goesL_ (some 8) rfl rfl Try.func85 (by kernel_rfl) rfl #[.slice Ao7 y158.length co7] rfl (by (try simp only [List.map_toArray, List.map_cons, List.map_nil]); first | done | rfl | (simp only [List.length_drop, List.length_take]; rfl)) ?_; (with_reducible refine (api_Layer_85.calls _ _ y158 t161 _ ?side1 ?side2 A3.out).mono ?_); (case side1 => repeat (first | exact (Kd.N_reads' HO160.out).2.2 | (with_reducible refine Kd.C_alloc ?_ _) | (with_reducible refine Kd.C_drewN ?_ _) | (with_reducible refine Kd.C_drew ?_))); (case side2 => exact (Kd.N_reads' HO160.out).2.1); rintro e w8 ⟨v162, rfl, ho0, hb⟩; refine ⟨_, rfl, ?_⟩; have n0_ := Aside0.mk (Kd.V_elder' (by (with_reducible repeat (first | apply Kd.V_alloc | apply Kd.V_drewN | apply Kd.V_drew)); exact HO0.out) (Kd.R_base ho0) hb); have n1_ := Aside0.mk (Kd.V_elder' (by (with_reducible repeat (first | apply Kd.V_alloc | apply Kd.V_drewN | apply Kd.V_drew)); exact HO1.out) (Kd.R_base ho0) hb); have n2_ := Aside0.mk (Kd.N_elder' (by (with_reducible repeat (first | apply Kd.N_alloc | apply Kd.N_drewN | apply Kd.N_drew)); exact HO160.out) (Kd.R_base ho0) hb); have n3_ := Aside0.mk (Kd.R_lower (Kd.R_newM (M := fun k_ => (w.heap.size ≤ k_)) ho0 (below_size (by repeat (first | (with_reducible first | exact HB.out | apply below_alloc | apply pw_below_drewN | apply below_drew1) | exact HB.out))) (fun k_ h_ => h_)) (below_size (by repeat (first | (with_reducible first | exact HB.out | apply below_alloc | apply pw_below_drewN | apply below_drew1) | exact HB.out)))); have n4_ := Aside0.mk (below_step (by repeat (first | (with_reducible first | exact HB.out | apply below_alloc | apply pw_below_drewN | apply below_drew1) | exact HB.out)) hb); clear HO0; clear HO1; clear HO160; clear HB; have HO0 := n0_; have HO1 := n1_; have HO160 := n2_; have HO163 := n3_; have HB := n4_; clear n0_ n1_ n2_ n3_ n4_; (try clear hb); (try clear hb2); (try clear hk); (try clear hi); (try clear ho0); obtain ⟨Ao9, co9, eo9⟩ := Kd.R_slice HO163.out; subst eo9) | ((with_reducible refine gate_callee (f := 39) rfl ?_); refine goesL_ (some 9) rfl rfl Try.func39 (by kernel_rfl) rfl #[.slice Ao9 t161.length co9] rfl (by (try simp only [List.map_toArray, List.map_cons, List.map_nil]); first | done | rfl | (simp only [List.length_drop, List.length_take]; rfl)) ?_; (with_reducible refine (chain_Norm.calls _ _ t161 t164 _ ?side1 ?side2 A4.out).mono ?_); (case side1 => repeat (first | exact (Kd.R_reads' HO163.out).2.2 | (with_reducible refine Kd.C_alloc ?_ _) | (with_reducible refine Kd.C_drewN ?_ _) | (with_reducible refine Kd.C_drew ?_))); (case side2 => exact (Kd.R_reads' HO163.out).2.1); rintro e w10 ⟨v165, rfl, ho0, hb⟩; refine ⟨_, rfl, ?_⟩; have n0_ := Aside0.mk (Kd.V_elder' (by (with_reducible repeat (first | apply Kd.V_alloc | apply Kd.V_drewN | apply Kd.V_drew)); exact HO0.out) (Kd.R_base ho0) hb); have n1_ := Aside0.mk (Kd.V_elder' (by (with_reducible repeat (first | apply Kd.V_alloc | apply Kd.V_drewN | apply Kd.V_drew)); exact HO1.out) (Kd.R_base ho0) hb); have n2_ := Aside0.mk (Kd.N_elder' (by (with_reducible repeat (first | apply Kd.N_alloc | apply Kd.N_drewN | apply Kd.N_drew)); exact HO160.out) (Kd.R_base ho0) hb); have n3_ := Aside0.mk (Kd.R_elder' (by (with_reducible repeat (first | apply Kd.R_alloc | apply Kd.R_drewN | apply Kd.R_drew)); exact HO163.out) (Kd.R_base ho0) hb); have n4_ := Aside0.mk (Kd.R_lower (Kd.R_new' (Kd.R_newM (M := fun k_ => (w.heap.size ≤ k_)) ho0 (below_size (by repeat (first | (with_reducible first | exact HB.out | apply below_alloc | apply pw_below_drewN | apply below_drew1) | exact HB.out))) (fun k_ h_ => h_)) (Kd.R_lt (by (with_reducible repeat (first | apply Kd.R_alloc | apply Kd.R_drewN | apply Kd.R_drew)); exact HO163.out))) (below_size (by repeat (first | (with_reducible first | exact HB.out | apply below_alloc | apply pw_below_drewN | apply below_drew1) | exact HB.out)))); have n5_ := Aside0.mk (below_step (by repeat (first | (with_reducible first | exact HB.out | apply below_alloc | apply pw_below_drewN | apply below_drew1) | exact HB.out)) hb); clear HO0; clear HO1; clear HO160; clear HO163; clear HB; have HO0 := n0_; have HO1 := n1_; have HO160 := n2_; have HO163 := n3_; have HO166 := n4_; have HB := n5_; clear n0_ n1_ n2_ n3_ n4_ n5_; (try clear hb); (try clear hb2); (try clear hk); (try clear hi); (try clear ho0)))
 go_ret
 exact ⟨_, by first | rfl | (simp [errW_none, errW_some] <;> rfl) | (simp [*, errW_none, errW_some] <;> rfl), by (with_reducible repeat (first | apply Kd.R_alloc | apply Kd.R_drewN | apply Kd.R_drew)); exact Kd.R_mono HO166.out (fun _ hk => hk.1.1), by repeat (first | (with_reducible first | exact HB.out | apply below_alloc | apply pw_below_drewN | apply below_drew1) | exact HB.out)⟩
def chain_Add.f (l0 : List (S35)) (a1_0 : Bool) (a1_1 : ByteArray) (a1_2 : Int) : Option ((List (S35))) := (chain_Merge.f l0 (([(⟨a1_0, a1_1, a1_2⟩ : S35)] : List (S35)))).bind fun t171 => (some t171)
set_option maxHeartbeats 8000000 in
set_option maxRecDepth 100000 in
theorem chain_Add.calls (A0 : Option Addr) (c0 : Nat) (l0 : List (S35)) (a1_0 : Bool) (a1_1 : ByteArray) (a1_2 : Int) (r : List (S35)) (w : World) (hr0 : Kd.C k35 w A0 l0.length l0) (hc0 : l0.length ≤ c0) (h : chain_Add.f l0 a1_0 a1_1 a1_2 = some r) :
  Calls Try.prog 67 #[.slice A0 l0.length c0, .agg #[.bool a1_0, .string a1_1, .int .i64 a1_2]] w fun e w' => ∃ v0_ : Value, e = .returned (v0_) ∧ Kd.R k35 35 w' w.heap.size (fun _ => True) v0_ r ∧ Below w.heap.size w w' := by
 have hu35 := Try.underlying35
 have HR0 := Aside0.mk hr0
 have HC0 := Aside0.mk hc0
 clear hr0 hc0
 have HB := Aside0.mk (Below.refl w.heap.size w)
 have H : ((chain_Merge.f l0 (([(⟨a1_0, a1_1, a1_2⟩ : S35)] : List (S35)))).bind fun t171 => (some t171)) = some r := h
 clear h
 obtain ⟨y168, hy168⟩ : ∃ y_ : List (S35), y_ = (([(⟨a1_0, a1_1, a1_2⟩ : S35)] : List (S35))) := ⟨_, rfl⟩
 replace H : ((chain_Merge.f l0 y168).bind fun t171 => (some t171)) = some r := by first | (rw [hy168]; with_reducible exact H) | (have H2_ := (Option.bind_some _ _).symm.trans H; rw [hy168]; with_reducible exact H2_) | (have H2_ := (Option.bind_some _ _).symm.trans H; with_reducible exact H2_) | with_reducible exact H | (rw [hy168]; exact H) | exact H
 have Ny168 := Aside0.mk hy168
 clear hy168
 replace H := Option.bind_eq_some_iff.mp H
 obtain ⟨t171, A30, H⟩ := H
 replace H : (some t171) = some r := H
 have A3 := Aside0.mk A30
 clear A30
 obtain rfl := Option.some.inj H
 go_enter Try.func67, Try.ntmps67
 go_wp2_with (first | ((with_reducible refine gate_dst (N := 3) rfl ?_); refine box_event ?hg (N := 3) ?hd (cs := #[.bool a1_0, .string a1_1, .int .i64 a1_2]) (t := 35) ?hr ?_; (case hd => rfl); (case hg => rfl); (case hr => first | (go_simp; done) | (go_simp; rfl)); intro gb167 hg w4 hbox hb; have n0_ := Aside0.mk (below_step (by repeat (first | (with_reducible first | exact HB.out | apply below_alloc | apply pw_below_drewN | apply below_drew1) | exact HB.out)) hb); have n1_ := Aside0.mk (hbox); have n2_ := Aside0.mk ((by rw [hg]; exact (below_size (by repeat (first | (with_reducible first | exact HB.out | apply below_alloc | apply pw_below_drewN | apply below_drew1) | exact HB.out))) : w.heap.size ≤ gb167)); have n3_ := Aside0.mk ((by rw [hg]; exact (below_size (by repeat (first | (with_reducible first | exact HB.out | apply below_alloc | apply pw_below_drewN | apply below_drew1) | exact HB.out))) : w.heap.size ≤ gb167)); clear HB; have HB := n0_; have BK167 := n1_; have GW167 := n2_; have GE167 := n3_; clear n0_ n1_ n2_ n3_; clear hb hbox hg; have hcz5_0 : w4.cell? ⟨gb167, 0, none⟩ = some (.bool a1_0) := (blk_cell BK167.out 0).trans rfl; have hcz5_1 : w4.cell? ⟨gb167, 1, none⟩ = some (.string a1_1) := (blk_cell BK167.out 1).trans rfl; have hcz5_2 : w4.cell? ⟨gb167, 2, none⟩ = some (.int .i64 a1_2) := (blk_cell BK167.out 2).trans rfl; have hfz5_0 := blk_frozen BK167.out 0; have hfz5_1 := blk_frozen BK167.out 1; have hfz5_2 := blk_frozen BK167.out 2) | ((with_reducible refine gate_dst (N := 7) rfl ?_); refine Kd.R_lit k35 _ 35 ?hg (N := 7) ?hd (xs := ([(⟨a1_0, a1_1, a1_2⟩ : S35)] : List (S35))) (inner := [.bool a1_0, .string a1_1, .int .i64 a1_2]) (ok := fun _ => True) (okp := fun _ => True) ?hr ?hp (fun _ hk => hk) trivial (Below.refl _ _) (Nat.le_refl _) (by simp) ?_; (case hd => rfl); (case hg => rfl); (case hr => first | (go_simp; done) | (go_simp; rfl)); (case hp => exact (Reps.c3 (show Kd.M k35 _ _ _ (⟨a1_0, a1_1, a1_2⟩ : S35) [.bool a1_0, .string a1_1, .int .i64 a1_2] from (k35_mkM _ _ _ (⟨a1_0, a1_1, a1_2⟩ : S35) )) (Reps.none _ _))); intro v169 w6 ho7 hb hg_ hnew_; clear hg_ hnew_; (first | rw [← Ny168.out] at ho7 | (simp only [Int.reduceToNat] at ho7; rw [← Ny168.out] at ho7)); have n0_ := Aside0.mk (Kd.R_lower (Kd.R_newB ho7 (g := gb167) (o := .cells #[.bool a1_0, .string a1_1, .int .i64 a1_2] 35 (0, 0)) (by (with_reducible repeat (first | refine blk_drewN ?_ _ | refine blk_drew ?_ | refine blk_alloc ?_ _)); exact BK167.out)) (below_size (by repeat (first | (with_reducible first | exact HB.out | apply below_alloc | apply pw_below_drewN | apply below_drew1 | refine below_set ?_ GE167.out) | exact HB.out)))); have n1_ := Aside0.mk (blk_below (g := gb167) (o := .cells #[.bool a1_0, .string a1_1, .int .i64 a1_2] 35 (0, 0)) (by (with_reducible repeat (first | refine blk_drewN ?_ _ | refine blk_drew ?_ | refine blk_alloc ?_ _)); exact BK167.out) hb); have n2_ := Aside0.mk (below_step (by repeat (first | (with_reducible first | exact HB.out | apply below_alloc | apply pw_below_drewN | apply below_drew1 | refine below_set ?_ GE167.out) | exact HB.out)) hb); clear BK167; clear HB; have HO170 := n0_; have BK167 := n1_; have HB := n2_; clear n0_ n1_ n2_; clear hb ho7; obtain ⟨Ao8, co8, eo8⟩ := Kd.R_slice HO170.out; subst eo8) | ((with_reducible refine gate_callee (f := 77) rfl ?_); refine goesL_ (some 8) rfl rfl Try.func77 (by kernel_rfl) rfl #[.slice A0 l0.length c0, .slice Ao8 y168.length co8] rfl (by (try simp only [List.map_toArray, List.map_cons, List.map_nil]); first | done | rfl | (simp only [List.length_drop, List.length_take]; rfl)) ?_; (with_reducible refine (chain_Merge.calls (fun k_ => k_ < w.heap.size) _ _ l0 (fun k_ => some k_ = (.slice Ao8 y168.length co8 : Value).ownBlock) _ _ y168 t171 _ ?side1 ?side2 A3.out).mono ?_); (case side1 => exact Kd.V_mk HC0.out (Kd.F_below (Kd.C_F k35_heap HR0.out) (by repeat (first | (with_reducible first | exact HB.out | apply below_alloc | apply pw_below_drewN | apply below_drew1 | refine below_set ?_ GE167.out) | exact HB.out)))); (case side2 => exact Kd.R_V (Kd.R_tight rfl (HO170.out))); rintro e w9 ⟨v172, rfl, ho0, hb⟩; refine ⟨_, rfl, ?_⟩; have n0_ := Aside0.mk (Kd.R_elder' (by (with_reducible repeat (first | apply Kd.R_alloc | apply Kd.R_drewN | apply Kd.R_drew)); exact HO170.out) (Kd.R_base ho0) hb); have n1_ := Aside0.mk (Kd.R_lower (Kd.R_newB (Kd.R_new' (Kd.R_mono (ok' := fun k_ => True) ho0 (fun _ hk_ => trivial)) (Kd.R_lt (by (with_reducible repeat (first | apply Kd.R_alloc | apply Kd.R_drewN | apply Kd.R_drew)); exact HO170.out))) (g := gb167) (o := .cells #[.bool a1_0, .string a1_1, .int .i64 a1_2] 35 (0, 0)) (by (with_reducible repeat (first | refine blk_drewN ?_ _ | refine blk_drew ?_ | refine blk_alloc ?_ _)); exact BK167.out)) (below_size (by repeat (first | (with_reducible first | exact HB.out | apply below_alloc | apply pw_below_drewN | apply below_drew1 | refine below_set ?_ GE167.out) | exact HB.out)))); have n2_ := Aside0.mk (blk_below (g := gb167) (o := .cells #[.bool a1_0, .string a1_1, .int .i64 a1_2] 35 (0, 0)) (by (with_reducible repeat (first | refine blk_drewN ?_ _ | refine blk_drew ?_ | refine blk_alloc ?_ _)); exact BK167.out) hb); have n3_ := Aside0.mk (below_step (by repeat (first | (with_reducible first | exact HB.out | apply below_alloc | apply pw_below_drewN | apply below_drew1 | refine below_set ?_ GE167.out) | exact HB.out)) hb); clear HO170; clear BK167; clear HB; have HO170 := n0_; have HO173 := n1_; have BK167 := n2_; have HB := n3_; clear n0_ n1_ n2_ n3_; (try clear hb); (try clear hb2); (try clear hk); (try clear hi); (try clear ho0)))
 go_ret
 exact ⟨_, by first | rfl | (simp [errW_none, errW_some] <;> rfl) | (simp [*, errW_none, errW_some] <;> rfl), by (with_reducible repeat (first | apply Kd.R_alloc | apply Kd.R_drewN | apply Kd.R_drew)); exact Kd.R_mono HO173.out (fun _ hk => trivial), by repeat (first | (with_reducible first | exact HB.out | apply below_alloc | apply pw_below_drewN | apply below_drew1 | refine below_set ?_ GE167.out) | exact HB.out)⟩
end Go.Proofs.Ytinkbljjpafadaa.PAll
end
