/- Parts of the proof of one statement, packed: what the program's functions compute. No conditions. -/
import Derived.Test.YtinkbljjpafadaaKC2
import Derived.Deep.DeepMust
import Derived.Test.YtinkbljjpafadaaKC1
set_option linter.unusedSimpArgs false
set_option linter.unusedVariables false
set_option maxRecDepth 100000
set_option maxHeartbeats 8000000
section
namespace Go.Proofs.YtinkbljjpafadaaTab
open Go.RowKit Go.Proofs.Ytinkbljjpafadaa.PAll Go.Proofs.YtinkbljjpafadaaW.PrintWords Go.Proofs.YtinkbljjpafadaaW.PrintLast Go.Proofs.YtinkbljjpafadaaRF Go.Proofs.YtinkbljjpafadaaRG
attribute [local go_sem] Oper.semAt_some
structure Caps (A0 : Option Addr) (c0 n0 : Nat) (merged inn : Bool) (mem : ByteArray) (param : Int) (oa ob oc : Int) (os : ByteArray) (Ao : Option Addr) (co no : Nat) (bo bi bt bm bp bg : Nat) (w : World) : Prop where
 o : w.heap[bo]? = some (.cells #[.int .i64 oa, .int .i64 ob, .int .u64 oc, .string os, .slice Ao no co] 27 (0, 0))
 i : w.heap[bi]? = some (.cells #[.bool inn] 4 (0, 0))
 t : w.heap[bt]? = some (.cells #[.slice A0 n0 c0] 22 (0, 0))
 m : w.heap[bm]? = some (.cells #[.string mem] 9 (0, 0))
 p : w.heap[bp]? = some (.cells #[.int .i64 param] 3 (0, 0))
 g : w.heap[bg]? = some (.cells #[.bool merged] 4 (0, 0))
theorem Caps.below {A0 : Option Addr} {c0 n0 : Nat} {merged inn : Bool} {mem : ByteArray} {param oa ob oc : Int} {os : ByteArray} {Ao : Option Addr} {co no bo bi bt bm bp bg : Nat} {w w' : World} (h : Caps A0 c0 n0 merged inn mem param oa ob oc os Ao co no bo bi bt bm bp bg w) (hb : Below w.heap.size w w') : Caps A0 c0 n0 merged inn mem param oa ob oc os Ao co no bo bi bt bm bp bg w' :=
 ⟨(hb.block _ (zai h.o)).trans h.o, (hb.block _ (zai h.i)).trans h.i, (hb.block _ (zai h.t)).trans h.t, (hb.block _ (zai h.m)).trans h.m, (hb.block _ (zai h.p)).trans h.p, (hb.block _ (zai h.g)).trans h.g⟩
theorem Caps.far {A0 : Option Addr} {c0 n0 : Nat} {merged inn : Bool} {mem : ByteArray} {param oa ob oc : Int} {os : ByteArray} {Ao : Option Addr} {co no bo bi bt bm bp bg : Nat} {w w' : World} (h : Caps A0 c0 n0 merged inn mem param oa ob oc os Ao co no bo bi bt bm bp bg w) {bv : Nat} {cs : Array Value} (hv : w.heap[bv]? = some (.cells cs 27 (0, 0))) (hbo : bo ≠ bv) (hm : ∀ k, k ≠ bv → k < w.heap.size → w'.heap[k]? = w.heap[k]?) : Caps A0 c0 n0 merged inn mem param oa ob oc os Ao co no bo bi bt bm bp bg w' := by
 refine ⟨(hm _ hbo (zai h.o)).trans h.o, (hm _ (fun e => ?_) (zai h.i)).trans h.i, (hm _ (fun e => ?_) (zai h.t)).trans h.t, (hm _ (fun e => ?_) (zai h.m)).trans h.m, (hm _ (fun e => ?_) (zai h.p)).trans h.p, (hm _ (fun e => ?_) (zai h.g)).trans h.g⟩
 ·
  have := h.i; rw [e, hv] at this; cases this
 ·
  have := h.t; rw [e, hv] at this; cases this
 ·
  have := h.m; rw [e, hv] at this; cases this
 ·
  have := h.p; rw [e, hv] at this; cases this
 ·
  have := h.g; rw [e, hv] at this; cases this
theorem zfD {bv : Nat} {w W W' : World} {O : Nat → Prop} (h : Mv (fun k => k = bv) w W) (hm : Mv O W W') (ho : ∀ k, O k → w.heap.size ≤ k) : Mv (fun k => k = bv) w W' :=
 ((h.mono (fun k _ e => (.inl e : k = bv ∨ w.heap.size ≤ k))).trans (hm.mono (fun k _ e => .inr (ho k e)))).mono (fun k hk e => e.elim id (fun x => by omega))
theorem zdw {bv : Nat} {w W W' : World} {O : Nat → Prop} (h : Mv (fun k => k = bv) w W) (hm : Mv O W W') (ho : ∀ k, O k → w.heap.size < k) : Mv (fun k => k = bv) w W' := zfD h hm (fun k e => Nat.le_of_lt (ho k e))
structure TI (F : S35 → Val → Option Val) (v0 : Val) (w : World) (n₀ bv : Nat) (pre : List (S35)) (O : Nat → Prop) (W : World) : Prop where
 ex : ∃ u1 u2 u3 u4 ul Au cu, okT F pre v0 = some (u1, u2, u3, u4, ul) ∧ W.heap[bv]? = some (.cells #[.int .i64 u1, .int .i64 u2, .int .u64 u3, .string u4, .slice Au ul.length cu] 27 (0, 0)) ∧ Kd.R k35 35 W n₀ (fun k => ¬ O k) (.slice Au ul.length cu) ul
 mv : Mv (fun k => k = bv) w W
 z : W.heap[w.heap.size]? = some (.cells #[.int .i64 0, .int .i64 0, .int .u64 0, .string ⟨#[]⟩, .slice none 0 0] 27 (0, 0))
 o : ∀ k, O k → w.heap.size < k
theorem TI.stable (F : S35 → Val → Option Val) (v0 : Val) (w : World) (n₀ bv : Nat) (hb : bv < w.heap.size) : Stable (TI F v0 w n₀ bv) := by
 intro s O O' W W' h hm h1 h2
 obtain ⟨u1, u2, u3, u4, ul, Au, cu, e1, e2, e3⟩ := h.ex
 refine ⟨⟨u1, u2, u3, u4, ul, Au, cu, e1, hm.at e2 (fun e => by have := h.o _ e; omega), Kd.za0 (Kd.zcv (Kd.zbB e3) (fun k hk hl => hm.block k hl hk.1)) (fun k hk e => (h2 k e).elim hk.1 (fun x => by have := hk.2.2.1; omega))⟩, zdw h.mv hm h.o, hm.at h.z (fun e => by have := h.o _ e; omega), fun k e => (h2 k e).elim (h.o k) (fun x => by have := zai h.z; omega)⟩
structure TP (w : World) (bv : Nat) (res : Option Val × Int) (ch : List PanicEntry) (pre : List (S35)) (O : Nat → Prop) (W : World) : Prop where
 no : res.1 = none
 ch : ch = [zhX res.2 false]
 mv : Mv (fun k => k = bv) w W
 o : ∀ k, O k → w.heap.size < k
 sz : w.heap.size < W.heap.size
theorem TP.stable (w : World) (bv : Nat) (res : Option Val × Int) (ch : List PanicEntry) : Stable (TP w bv res ch) := by
 intro s O O' W W' h hm h1 h2
 exact ⟨h.no, h.ch, zdw h.mv hm h.o, fun k e => (h2 k e).elim (h.o k) (fun x => by have := h.sz; omega), Nat.lt_of_lt_of_le h.sz hm.size⟩
theorem ze4 (A0 : Option Addr) (c0 : Nat) (t : List (S64)) (merged inn : Bool) (mem : ByteArray) (param : Int) (oa ob oc : Int) (os : ByteArray) (Ao : Option Addr) (co : Nat) (lo : List (S35)) (a b c : Int) (s : ByteArray) (Av : Option Addr) (cv : Nat) (lv : List (S35))
  (F : S35 → Val → Option Val) (w : World) (n₀ bv bo bi bt bm bp bg : Nat) (hn0 : n₀ ≤ w.heap.size) (hnv : n₀ ≤ bv) (hbo : bo ≠ bv)
  (hv : w.heap[bv]? = some (.cells #[.int .i64 a, .int .i64 b, .int .u64 c, .string s, .slice Av lv.length cv] 27 (0, 0)))
  (hcap : Caps A0 c0 t.length merged inn mem param oa ob oc os Ao co lo.length bo bi bt bm bp bg w)
  (hCt : ∀ w', Below n₀ w w' → Kd.C k64 w' A0 t.length t) (hCo : ∀ w', Below n₀ w w' → Kd.C k35 w' Ao lo.length lo)
  (hcl : ∀ w', Below n₀ w w' → Calls Try.prog 52 #[.slice Av lv.length cv] w' fun e w'' => ∃ v, e = .returned v ∧ Kd.R k35 35 w'' w'.heap.size (fun _ => True) v lv ∧ Below w'.heap.size w' w'')
  (hs : Small t) (hfl : ∀ x ∈ lo, (zb5 t x.f1).length < 4398046511104) (hlo : lo.length < 4398046511104) (hoa : oa = 7)
  (hstep : ∀ pre x u1 u2 u3 u4 ul, pre ++ [x] <+: wl inn lo → okT F pre (a, b, c, s, lv) = some (u1, u2, u3, u4, ul) →
   ((zbD t x.f1 mem param).2 = false ∧ F x (u1, u2, u3, u4, ul) = some (u1, u2, u3, u4, ul)) ∨
   ((zbD t x.f1 mem param).2 = true ∧ ∀ w' A cc, Below n₀ w w' → Kd.C k35 w' A ul.length ul → ul.length ≤ cc →
    Calls Try.prog (if x.f0 = inn then 36 else 47) #[.agg #[.slice A0 t.length c0, .bool merged, .int .i64 x.f2], .agg #[.int .i64 u1, .int .i64 u2, .int .u64 u3, .string u4, .slice A ul.length cc], .string (zbD t x.f1 mem param).1] w' (Ent x.f2 w' (F x (u1, u2, u3, u4, ul))))) :
  Calls Try.prog 54 #[.pointer (some ⟨bv, 0, none⟩), .pointer (some ⟨bo, 0, none⟩), .pointer (some ⟨bi, 0, none⟩), .pointer (some ⟨bt, 0, none⟩), .pointer (some ⟨bm, 0, none⟩), .pointer (some ⟨bp, 0, none⟩), .pointer (some ⟨bg, 0, none⟩)] w (EntZ n₀ (fun k => k = bv) (runT F (wl inn lo) (a, b, c, s, lv)).2 w (runT F (wl inn lo) (a, b, c, s, lv)).1) := by
 have hu27 := Try.underlying27
 obtain ⟨W1, hW1⟩ : ∃ W1, W1 = w.alloc (.cells #[.int .i64 0, .int .i64 0, .int .u64 0, .string ⟨#[]⟩, .slice none 0 0] 27) := ⟨_, rfl⟩
 have hb1 : Below w.heap.size w W1 := by rw [hW1]; exact (Below.refl _ _).alloc (Nat.le_refl _) _
 have k1 : W1.heap[w.heap.size]? = some (.cells #[.int .i64 0, .int .i64 0, .int .u64 0, .string ⟨#[]⟩, .slice none 0 0] 27 (0, 0)) := by rw [hW1]; exact at_new _ _ rfl
 have hv1 := (hb1.block _ (zai hv)).trans hv
 have hcap1 := hcap.below hb1
 have HCL := zaa.mk (hcl W1 (hb1.mono hn0))
 have hvr := hv1
 rw [hW1] at hvr
 obtain ⟨_, _, _, _, x4⟩ := cells5 hvr
 have HW1 := zaa.mk hW1
 have HK1 := zaa.mk (And.intro k1 (And.intro hv1 hcap1))
 have HB1 := zaa.mk hb1
 clear hvr hW1 k1 hv1 hcap1 hb1 hcl
 refine (callsIn_wide (n := 6)).1 ?_
 refine zdq Try.func54 rfl trivial ?_ rfl
 simp only [Try.ntmps54, List.size_toArray, List.length_cons, List.length_nil, Nat.reduceAdd, Nat.reduceSub, Array.replicate_succ, Array.replicate_zero, List.push_toArray, List.append_toArray, List.nil_append, List.cons_append]
 refine zcA (fun K hK => ?_)
 gi_wp2
 refine zcA (fun K hK => ?_)
 gi_wp2
 rw [← HW1.out]
 refine ⟨trivial, (callsIn_wide.2 HCL.out).mono ?_⟩
 rintro e w2 ⟨v2, rfl, hR2, hb2⟩
 obtain ⟨A2, c2, hv2⟩ := Kd.zbj hR2
 subst hv2
 have hk2 := (hb2.block _ (zai HK1.out.1)).trans HK1.out.1
 have hvv := (hb2.block _ (zai HK1.out.2.1)).trans HK1.out.2.1
 have hcap2 := HK1.out.2.2.below hb2
 have hB2 := HB1.out.trans (hb2.mono HB1.out.size)
 obtain ⟨z0, z1, z2, z3, z4⟩ := cells5 hvv
 have fz4 := free_at hvv 4
 obtain ⟨W3, hW3⟩ : ∃ W3, W3 = w2.setCell ⟨bv, 4, none⟩ (.slice A2 lv.length c2) := ⟨_, rfl⟩
 have hfar : ∀ k, k ≠ bv → W3.heap[k]? = w2.heap[k]? := fun k hk => by rw [hW3]; exact Below.heap_setCell _ _ _ _ hk
 have hcap3 := hcap2.far hvv hbo (fun k hk _ => hfar k hk)
 have hlv : bv < w.heap.size := zai hv
 have hk3 := (hfar _ (show w.heap.size ≠ bv by omega)).trans hk2
 have hv3 : W3.heap[bv]? = some (.cells #[.int .i64 a, .int .i64 b, .int .u64 c, .string s, .slice A2 lv.length c2] 27 (0, 0)) := by rw [hW3]; exact zaf hvv 4 _ rfl
 have hR3 : Kd.R k35 35 W3 W1.heap.size (fun _ => True) (.slice A2 lv.length c2) lv := by rw [hW3]; exact Kd.R_set hR2 hvv d9 4 _
 have hB3 : Below n₀ w W3 := by rw [hW3]; exact zcj (hB2.mono hn0) hnv _
 have hm3 : Mv (fun k => k = bv) w W3 := by rw [hW3]; exact (Mv.zb2 hB2 (fun k => k = bv)).setCell (p := ⟨bv, 4, none⟩) (.inl rfl) _
 have hs3 : W3.heap.size = w2.heap.size := by rw [hW3]; simp
 have hco := hcap3.o
 have hci := hcap3.i
 rw [hW3] at hco hci
 obtain ⟨o0, _, _, _, o4⟩ := cells5 hco
 have i0 := zad hci 0
 simp only [List.getElem?_toArray, List.getElem?_cons_zero] at i0
 subst hoa
 have H3 := zaa.mk (And.intro hcap3 (And.intro hk3 (And.intro hv3 (And.intro hR3 (And.intro hB3 hm3)))))
 have HW3 := zaa.mk hW3
 have HSZ := zaa.mk (show w.heap.size + 1 ≤ W3.heap.size by have h1 := zai hk3; omega)
 clear x4 hR2 hb2 hk2 hvv hcap2 hB2 hfar hcap3 hk3 hv3 hR3 hB3 hm3 hco hci hW3 hs3 HCL HK1
 gi_wp2
 refine zcA (fun K hK => ?_)
 gi_wp2
 refine ziW (zcA (fun K hK => ?_))
 gi_wp2
 rw [← HW3.out]
 refine ⟨trivial, (callsIn_wide.2 (zgQ _ _ _ _ _)).mono ?_⟩
 rintro e w4 ⟨rfl, rfl⟩
 gi_wp2
 obtain ⟨W5, hW5⟩ : ∃ W5, W5 = (W3.alloc (.cells #[.slice Ao lo.length co] 25)).alloc (.cells #[.bool inn] 4) := ⟨_, rfl⟩
 have hb5 : Below W3.heap.size W3 W5 := by rw [hW5]; exact ((Below.refl _ _).alloc (Nat.le_refl _) _).alloc s9 _
 have l1 : W5.heap[W3.heap.size]? = some (.cells #[.slice Ao lo.length co] 25 (0, 0)) := by rw [hW5]; exact zal (at_new _ _ rfl) _
 have l2 : W5.heap[W3.heap.size + 1]? = some (.cells #[.bool inn] 4 (0, 0)) := by rw [hW5]; exact at_new _ _ s9
 have hs5 : W5.heap.size = W3.heap.size + 2 := by rw [hW5]; simp
 have hsz := HSZ.out
 have hbvl : bv < w.heap.size := zai hv
 obtain ⟨hcap3, hk3, hv3, hR3, hB3, hm3⟩ := H3.out
 have hB5 : Below n₀ w W5 := hB3.trans (hb5.mono (Nat.le_trans hn0 o9))
 have hm5 : Mv (fun k => k = bv) w W5 := hm3.trans (Mv.zb2 hb5 _)
 rw [← hW5]
 refine ziB ?_
 refine zj9 (n := 6) rfl o9 68 #[.pointer (some ⟨W3.heap.size, 0, none⟩), .pointer (some ⟨W3.heap.size + 1, 0, none⟩)] rfl trivial (zc2 Try.func68 k9 rfl)
  (fun x : S35 => #[encL x]) (fun _ => rfl) (fun k => k = W3.heap.size ∨ k = W3.heap.size + 1) (fun k => k < n₀) (fun k hk => by rcases hk with rfl | rfl <;> omega) (fun k h => by omega)
  (zgV 5 o9 Ao co lo hlo inn W3.heap.size (W3.heap.size + 1) n₀ W5 o9 (fun w' h => hCo w' (hB5.trans h)) l1 l2)
  (TI F (a, b, c, s, lv) w n₀ bv) (fun _ _ _ _ => False) (TP w bv (runT F (wl inn lo) (a, b, c, s, lv))) (TI.stable F _ w n₀ bv hbvl) (fun _ _ _ _ _ _ h _ _ _ => h) (TP.stable w bv _) ?_ (fun x W => { tmps := #[.pointer (some ⟨bv, 0, none⟩), .pointer (some ⟨bo, 0, none⟩), .pointer (some ⟨bi, 0, none⟩), .pointer (some ⟨bt, 0, none⟩), .pointer (some ⟨bm, 0, none⟩), .pointer (some ⟨bp, 0, none⟩), .pointer (some ⟨bg, 0, none⟩), .pointer (some ⟨w.heap.size, 0, none⟩), .pointer (some ⟨W.heap.size, 0, none⟩), undef, undef, undef, undef, .pointer (some ⟨bv, 4, none⟩), .slice Av lv.length cv, .slice A2 lv.length c2, .pointer (some ⟨bv, 4, none⟩), .pointer (some ⟨bo, 0, none⟩), .int .i64 7, .bool false, undef, .pointer (some ⟨bo, 4, none⟩), .slice Ao lo.length co, .bool inn, .func (.func 68) #[] #[.pointer (some ⟨W3.heap.size, 0, none⟩), .pointer (some ⟨W3.heap.size + 1, 0, none⟩)], encL x, undef, undef, undef, undef, undef, undef, undef, undef, undef, undef, undef, undef, undef, undef, undef, undef, undef, undef, undef, undef, undef, undef, undef, undef, undef, undef, undef, undef, undef], defers := [] }) (fun x W => W.alloc (.cells #[.bool x.f0, .string x.f1, .int .i64 x.f2] 35)) (fun x W => (Below.refl _ _).alloc (Nat.le_refl _) _) ?assign ?body ?done ?stop ?panic
 ·
  intro O hO W hW
  have hO' : ∀ k, O k → W3.heap.size ≤ k := fun k hk => by rcases hO k hk with (h | h) | h <;> omega
  have hRa := Kd.zbC (Kd.za0 (ok' := fun k => ¬ O k) (Kd.zbB hR3) (fun k hk e => by have h1 := hO' k e; have h2 := hk.2.2.1; omega)) hb5
  have hRb := Kd.zcv (w1 := W) hRa (fun k _ hl => hW.block k hl (fun h => h))
  refine ⟨⟨a, b, c, s, lv, A2, c2, rfl, hW.at ((hb5.block _ (zai hv3)).trans hv3) (fun h => h), Kd.zbi hRb (Nat.le_trans hn0 HB1.out.size)⟩, hm5.trans (hW.mono (fun _ _ h => h.elim)), hW.at ((hb5.block _ (zai hk3)).trans hk3) (fun h => h), fun k hk => by have := hO' k hk; omega⟩
 case stop => intro D cc pre O W _ _ _ h; exact h.elim
 case assign =>
  intro l x W K hK
  simp only [encL] at hK ⊢
  gi_wp2
  exact hK
 case body =>
  intro l pre x O W0 W hI hpre hOl hOlp hrec hOO hsz2
  obtain ⟨rl, hWe, hll⟩ := hrec
  obtain ⟨u1, u2, u3, u4, ul, Au, cu, e1, e2, e3⟩ := hI.ex
  have hlw := hI.o l hOlp
  have hm : Mv (fun k => k = l) W0 W := by rw [hWe]; exact (Mv.zb2 ((Below.refl W0.heap.size W0).alloc (Nat.le_refl _) _) (fun k => k = l)).putObj (r := l) (.inl rfl) _
  have hmw := zdw hI.mv hm (fun k e => by rw [e]; exact hlw)
  have hcapW := hcap.far hv hbo (fun k hk hl => hmw.block k hl hk)
  have hvW := hm.at e2 (fun e => by omega)
  have hzW := hm.at hI.z (fun e => by omega)
  have hxW : W.heap[W0.heap.size]? = some (.cells #[.bool x.f0, .string x.f1, .int .i64 x.f2] 35 (0, 0)) := by rw [hWe]; exact (World.putObj_heap_other o9).trans (at_new _ _ rfl)
  have hbW : Below n₀ w W := hmw.below hn0 (fun k e => by omega)
  have hst := hstep pre x u1 u2 u3 u4 ul hpre e1
  have hxin : x ∈ lo := by
   have h1 : x ∈ wl inn lo := hpre.subset s9
   unfold wl at h1
   split at h1
   ·
    exact List.mem_reverse.1 h1
   ·
    exact h1
  have HTY := zaa.mk (zhk A0 c0 t x.f1 mem param W (hCt W hbW) hs (hfl x hxin))
  have ht0 := zad hcapW.t 0
  have hm0 := zad hcapW.m 0
  have hp0 := zad hcapW.p 0
  have hx1 := zad hxW 1
  simp only [List.getElem?_toArray, List.getElem?_cons_zero, List.getElem?_cons_succ] at ht0 hm0 hp0 hx1
  obtain ⟨T, hT⟩ : ∃ T, T = zbD t x.f1 mem param := ⟨_, rfl⟩
  rw [← hT] at hst HTY
  have HST := zaa.mk hst
  have HI := zaa.mk hI
  clear hst hT hWe
  gi_wp2
  refine ⟨trivial, (CallsIn.inRound l (callsIn_wide.2 HTY.out)).mono ?_⟩
  rintro e w7 ⟨rfl, hb7⟩
  have hRW := Kd.zcv (w1 := W) e3 (fun k hk hl => hm.block k hl (fun e => hk (e ▸ hOlp)))
  rcases HST.out with ⟨h2, h3⟩ | ⟨h2, hcall⟩
  ·
   have TN := zaa.mk (show TI F (a, b, c, s, lv) w n₀ bv (pre ++ [x]) O w7 from
    ⟨⟨u1, u2, u3, u4, ul, Au, cu, by rw [zfz, e1]; exact h3, (hb7.block _ (zai hvW)).trans hvW, Kd.zbC hRW hb7⟩, zdw hmw (Mv.zb2 hb7 (fun _ => False)) (fun _ h => h.elim), (hb7.block _ (zai hzW)).trans hzW, HI.out.o⟩)
   have HB7 := zaa.mk hb7
   rw [h2]
   clear hb7 HST HTY h3 hRW hstep hcap hcapW
   gi_wp2
   exact ⟨Mv.zb2 HB7.out _, TN.out⟩
  ·
   obtain ⟨W8, hW8⟩ : ∃ W8, W8 = w7.alloc (.cells #[.slice A0 t.length c0, .bool merged, .int .i64 x.f2] 73) := ⟨_, rfl⟩
   have hb8 : Below W.heap.size W W8 := by rw [hW8]; exact hb7.alloc hb7.size _
   have hcap8 := hcapW.below hb8
   have hcap7 := hcapW.below hb7
   have hx7 := (hb7.block _ (zai hxW)).trans hxW
   have hx8 := (hb8.block _ (zai hxW)).trans hxW
   have hv8 := (hb8.block _ (zai hvW)).trans hvW
   have hn8 : W8.heap[w7.heap.size]? = some (.cells #[.slice A0 t.length c0, .bool merged, .int .i64 x.f2] 73 (0, 0)) := by rw [hW8]; exact at_new _ _ rfl
   have hv8r := hv8
   have hn8r := hn8
   have hx8r := hx8
   have hi8r := hcap8.i
   rw [hW8] at hv8r hn8r hx8r hi8r
   have t0 := zad hcap7.t 0
   have g0 := zad hcap7.g 0
   have x2 := zad hx7 2
   have n0 := zad hn8r 0
   have n1 := zad hn8r 1
   have n2 := zad hn8r 2
   have x0 := zad hx8r 0
   have i0 := zad hi8r 0
   obtain ⟨v0, v1, v2, v3, v4⟩ := cells5 hv8r
   simp only [List.getElem?_toArray, List.getElem?_cons_zero, List.getElem?_cons_succ] at t0 g0 x2 n0 n1 n2 x0 i0
   have hmf : ∀ (fn : Fn) (first cap : Array Value) (w : World), (Instr.makeFunc fn first cap).run Try.prog w = .ok (.func fn first cap) w := fun _ _ _ _ => rfl
   have hu73 := Try.underlying73
   rw [h2]
   have HW8 := zaa.mk hW8
   have HB8 := zaa.mk hb8
   have HV8 := zaa.mk hv8
   have HRW := zaa.mk hRW
   have HCALL := zaa.mk hcall
   clear hW8 hb8 hcap8 hcap7 hx7 hx8 hv8 hn8 hv8r hn8r hx8r hi8r hRW hcall HST HTY hstep hcap hcapW hb7
   by_cases hq : x.f0 = inn
   ·
    have hq1 : (x.f0 == inn) = true := by simpa using hq
    have hq2 : decide (x.f0 = inn) = true := decide_eq_true hq
    have HQ := zaa.mk hq
    clear hq
    obtain ⟨_, _, ea, hcc, hC8⟩ := Kd.zb4 (Kd.zbC HRW.out HB8.out)
    cases ea
    have HC := zaa.mk (HCALL.out W8 _ _ (hbW.trans (HB8.out.mono (Nat.le_trans hn0 hmw.size))) hC8 hcc)
    rw [if_pos HQ.out] at HC
    clear hC8 hcc HCALL
    gi_wp2
    rw [← HW8.out]
    refine ⟨trivial, (CallsIn.inRound l (callsIn_wide.2 HC.out)).mono ?_⟩
    intro e w9 hE
    have hB9 : Below W.heap.size W w9 := by
     cases ho : F x (u1, u2, u3, u4, ul) with
     | none => rw [ho] at hE; exact HB8.out.trans (hE.2.mono HB8.out.size)
     | some r => rw [ho] at hE; obtain ⟨_, _, _, h⟩ := hE; exact HB8.out.trans (h.mono HB8.out.size)
    have hv9 := (hB9.block _ (zai hvW)).trans hvW
    cases ho : F x (u1, u2, u3, u4, ul) with
    | none =>
     rw [ho] at hE
     obtain ⟨rfl, hb9⟩ := hE
     have hrun := zfr F e1 ho hpre
     show zjl _ _ _ _ _ _ (.panic _) _ _
     refine ⟨rfl, Mv.zb2 hB9 _, ?_⟩
     exact ⟨by rw [hrun], by rw [hrun]; rfl, zdw hmw (Mv.zb2 hB9 (fun _ => False)) (fun _ h => h.elim), HI.out.o, Nat.lt_of_lt_of_le (zai hzW) hB9.size⟩
    | some r =>
     obtain ⟨r1, r2, r3, r4, r5⟩ := r
     rw [ho] at hE
     obtain ⟨v9, rfl, hR9, hb9⟩ := hE
     obtain ⟨A9, c9, rfl⟩ := Kd.zbj hR9
     have f0 := free_at hv9 0
     have f1 := free_at hv9 1
     have f2 := free_at hv9 2
     have f3 := free_at hv9 3
     have f4 := free_at hv9 4
     obtain ⟨z0, z1, z2, z3, z4⟩ := cells5 hv9
     have HR9 := zaa.mk hR9
     have HB9 := zaa.mk hB9
     have HV9 := zaa.mk hv9
     have HO := zaa.mk ho
     clear hR9 hB9 hv9 ho hb9
     gi_wp2
     obtain ⟨WE, hWE⟩ : ∃ WE, WE = ((((w9.setCell ⟨bv, 0, none⟩ (.int .i64 r1)).setCell ⟨bv, 1, none⟩ (.int .i64 r2)).setCell ⟨bv, 2, none⟩ (.int .u64 r3)).setCell ⟨bv, 3, none⟩ (.string r4)).setCell ⟨bv, 4, none⟩ (.slice A9 r5.length c9) := ⟨_, rfl⟩
     rw [← hWE]
     have d1 := zaf HV9.out 0 (.int .i64 r1) rfl
     have d2 := zaf d1 1 (.int .i64 r2) rfl
     have d3 := zaf d2 2 (.int .u64 r3) rfl
     have d4 := zaf d3 3 (.string r4) rfl
     have d5 := zaf d4 4 (.slice A9 r5.length c9) rfl
     have hRE := Kd.R_set (Kd.R_set (Kd.R_set (Kd.R_set (Kd.R_set HR9.out HV9.out d9 0 (.int .i64 r1)) d1 d9 1 (.int .i64 r2)) d2 d9 2 (.int .u64 r3)) d3 d9 3 (.string r4)) d4 d9 4 (.slice A9 r5.length c9)
     have hmE : Mv (fun k => k = bv) W WE := by
      rw [hWE]
      exact ((((((Mv.zb2 HB9.out (fun k => k = bv)).setCell (p := ⟨bv, 0, none⟩) (.inl rfl) _).setCell (p := ⟨bv, 1, none⟩) (.inl rfl) _).setCell (p := ⟨bv, 2, none⟩) (.inl rfl) _).setCell (p := ⟨bv, 3, none⟩) (.inl rfl) _).setCell (p := ⟨bv, 4, none⟩) (.inl rfl) _)
     rw [← hWE] at d5 hRE
     refine ⟨hmE.mono (fun k _ e h => ?_), ⟨⟨r1, r2, r3, r4, r5, A9, c9, by rw [zfz, e1]; exact HO.out, d5, ?_⟩, ?_, ?_, HI.out.o⟩⟩
     ·
      rcases h with h | h
      ·
       have := HI.out.o _ h; omega
      ·
       omega
     ·
      have hsz8 := HB8.out.size
      have hsz := hmw.size
      have hOk : ∀ k, O k → k < W8.heap.size := fun k hk => by have h1 := hOl k hk; have h2 := hm.size; omega
      have hle : n₀ ≤ W8.heap.size := by have := zai hv; omega
      exact Kd.zbi (Kd.za0 (ok' := fun k => ¬ O k) (Kd.zbB hRE) (fun k hk e => by have h1 := hOk k e; have h2 := hk.2.2.1; omega)) hle
     ·
      exact hmw.trans hmE
     ·
      exact hmE.at hzW (fun e => by omega)
   ·
    have hq1 : (x.f0 == inn) = false := by simpa using hq
    have hq2 : decide (x.f0 = inn) = false := decide_eq_false hq
    have HQ := zaa.mk hq
    clear hq
    obtain ⟨_, _, ea, hcc, hC8⟩ := Kd.zb4 (Kd.zbC HRW.out HB8.out)
    cases ea
    have HC := zaa.mk (HCALL.out W8 _ _ (hbW.trans (HB8.out.mono (Nat.le_trans hn0 hmw.size))) hC8 hcc)
    rw [if_neg HQ.out] at HC
    clear hC8 hcc HCALL
    gi_wp2
    rw [← HW8.out]
    refine ⟨trivial, (CallsIn.inRound l (callsIn_wide.2 HC.out)).mono ?_⟩
    intro e w9 hE
    have hB9 : Below W.heap.size W w9 := by
     cases ho : F x (u1, u2, u3, u4, ul) with
     | none => rw [ho] at hE; exact HB8.out.trans (hE.2.mono HB8.out.size)
     | some r => rw [ho] at hE; obtain ⟨_, _, _, h⟩ := hE; exact HB8.out.trans (h.mono HB8.out.size)
    have hv9 := (hB9.block _ (zai hvW)).trans hvW
    cases ho : F x (u1, u2, u3, u4, ul) with
    | none =>
     rw [ho] at hE
     obtain ⟨rfl, hb9⟩ := hE
     have hrun := zfr F e1 ho hpre
     show zjl _ _ _ _ _ _ (.panic _) _ _
     refine ⟨rfl, Mv.zb2 hB9 _, ?_⟩
     exact ⟨by rw [hrun], by rw [hrun]; rfl, zdw hmw (Mv.zb2 hB9 (fun _ => False)) (fun _ h => h.elim), HI.out.o, Nat.lt_of_lt_of_le (zai hzW) hB9.size⟩
    | some r =>
     obtain ⟨r1, r2, r3, r4, r5⟩ := r
     rw [ho] at hE
     obtain ⟨v9, rfl, hR9, hb9⟩ := hE
     obtain ⟨A9, c9, rfl⟩ := Kd.zbj hR9
     have f0 := free_at hv9 0
     have f1 := free_at hv9 1
     have f2 := free_at hv9 2
     have f3 := free_at hv9 3
     have f4 := free_at hv9 4
     obtain ⟨z0, z1, z2, z3, z4⟩ := cells5 hv9
     have HR9 := zaa.mk hR9
     have HB9 := zaa.mk hB9
     have HV9 := zaa.mk hv9
     have HO := zaa.mk ho
     clear hR9 hB9 hv9 ho hb9
     gi_wp2
     obtain ⟨WE, hWE⟩ : ∃ WE, WE = ((((w9.setCell ⟨bv, 0, none⟩ (.int .i64 r1)).setCell ⟨bv, 1, none⟩ (.int .i64 r2)).setCell ⟨bv, 2, none⟩ (.int .u64 r3)).setCell ⟨bv, 3, none⟩ (.string r4)).setCell ⟨bv, 4, none⟩ (.slice A9 r5.length c9) := ⟨_, rfl⟩
     rw [← hWE]
     have d1 := zaf HV9.out 0 (.int .i64 r1) rfl
     have d2 := zaf d1 1 (.int .i64 r2) rfl
     have d3 := zaf d2 2 (.int .u64 r3) rfl
     have d4 := zaf d3 3 (.string r4) rfl
     have d5 := zaf d4 4 (.slice A9 r5.length c9) rfl
     have hRE := Kd.R_set (Kd.R_set (Kd.R_set (Kd.R_set (Kd.R_set HR9.out HV9.out d9 0 (.int .i64 r1)) d1 d9 1 (.int .i64 r2)) d2 d9 2 (.int .u64 r3)) d3 d9 3 (.string r4)) d4 d9 4 (.slice A9 r5.length c9)
     have hmE : Mv (fun k => k = bv) W WE := by
      rw [hWE]
      exact ((((((Mv.zb2 HB9.out (fun k => k = bv)).setCell (p := ⟨bv, 0, none⟩) (.inl rfl) _).setCell (p := ⟨bv, 1, none⟩) (.inl rfl) _).setCell (p := ⟨bv, 2, none⟩) (.inl rfl) _).setCell (p := ⟨bv, 3, none⟩) (.inl rfl) _).setCell (p := ⟨bv, 4, none⟩) (.inl rfl) _)
     rw [← hWE] at d5 hRE
     refine ⟨hmE.mono (fun k _ e h => ?_), ⟨⟨r1, r2, r3, r4, r5, A9, c9, by rw [zfz, e1]; exact HO.out, d5, ?_⟩, ?_, ?_, HI.out.o⟩⟩
     ·
      rcases h with h | h
      ·
       have := HI.out.o _ h; omega
      ·
       omega
     ·
      have hsz8 := HB8.out.size
      have hsz := hmw.size
      have hOk : ∀ k, O k → k < W8.heap.size := fun k hk => by have h1 := hOl k hk; have h2 := hm.size; omega
      have hle : n₀ ≤ W8.heap.size := by have := zai hv; omega
      exact Kd.zbi (Kd.za0 (ok' := fun k => ¬ O k) (Kd.zbB hRE) (fun k hk e => by have h1 := hOk k e; have h2 := hk.2.2.1; omega)) hle
     ·
      exact hmw.trans hmE
     ·
      exact hmE.at hzW (fun e => by omega)
 case panic =>
  intro D ch pre O W hD hOD hOl hI hk
  have hmD : Mv (fun k => k = bv) w (W.putObj D (.deferred none)) := zdw hI.mv ((Mv.refl (fun k => k = D) W).putObj (r := D) (.inl rfl) _) (fun k e => by rw [e]; omega)
  refine ⟨by simp, .inl ⟨D, _, rfl, run_takeDeferred hk, ?_⟩⟩
  show EntZ n₀ (fun k => k = bv) _ w _ (.panicked ch) (W.putObj D (.deferred none))
  rw [hI.no, hI.ch]
  exact ⟨rfl, hmD⟩
 case done =>
  intro D xs O W hD hOD hOl hS hI hk
  subst hS
  obtain ⟨u1, u2, u3, u4, ul, Au, cu, e1, e2, e3⟩ := hI.ex
  have hrun := zkw F e1
  rw [hrun]
  obtain ⟨y0, y1, y2, y3, y4⟩ := cells5 e2
  obtain ⟨p0, p1, p2, p3, p4⟩ := cells5 hI.z
  have f0 := free_at hI.z 0
  have f1 := free_at hI.z 1
  have f2 := free_at hI.z 2
  have f3 := free_at hI.z 3
  have f4 := free_at hI.z 4
  have HI := zaa.mk hI
  have HE3 := zaa.mk e3
  have HKD := zaa.mk (And.intro hk (And.intro hOD (show w.heap.size < D by omega)))
  clear hI e3 e2 e1 hrun hk hOD hOl hD hstep
  refine zjH ?_
  gi_wp2
  have d2 := zaf (zaf (zaf (zaf (zaf HI.out.z 0 (.int .i64 u1) rfl) 1 (.int .i64 u2) rfl) 2 (.int .u64 u3) rfl) 3 (.string u4) rfl) 4 (.slice Au ul.length cu) rfl
  have hR9 := Kd.R_set (Kd.R_set (Kd.R_set (Kd.R_set (Kd.R_set HE3.out HI.out.z d9 0 (.int .i64 u1)) (zaf HI.out.z 0 (.int .i64 u1) rfl) d9 1 (.int .i64 u2)) (zaf (zaf HI.out.z 0 (.int .i64 u1) rfl) 1 (.int .i64 u2) rfl) d9 2 (.int .u64 u3)) (zaf (zaf (zaf HI.out.z 0 (.int .i64 u1) rfl) 1 (.int .i64 u2) rfl) 2 (.int .u64 u3) rfl) d9 3 (.string u4)) (zaf (zaf (zaf (zaf HI.out.z 0 (.int .i64 u1) rfl) 1 (.int .i64 u2) rfl) 2 (.int .u64 u3) rfl) 3 (.string u4) rfl) d9 4 (.slice Au ul.length cu)
  obtain ⟨WE, hWE⟩ : ∃ WE, WE = ((((W.setCell ⟨w.heap.size, 0, none⟩ (.int .i64 u1)).setCell ⟨w.heap.size, 1, none⟩ (.int .i64 u2)).setCell ⟨w.heap.size, 2, none⟩ (.int .u64 u3)).setCell ⟨w.heap.size, 3, none⟩ (.string u4)).setCell ⟨w.heap.size, 4, none⟩ (.slice Au ul.length cu) := ⟨_, rfl⟩
  have hmE : Mv (fun k => k = w.heap.size) W WE := by
   rw [hWE]
   exact (((((Mv.refl (fun k => k = w.heap.size) W).setCell (p := ⟨w.heap.size, 0, none⟩) (.inl rfl) _).setCell (p := ⟨w.heap.size, 1, none⟩) (.inl rfl) _).setCell (p := ⟨w.heap.size, 2, none⟩) (.inl rfl) _).setCell (p := ⟨w.heap.size, 3, none⟩) (.inl rfl) _).setCell (p := ⟨w.heap.size, 4, none⟩) (.inl rfl) _
  have hDE := hmE.at HKD.out.1 (fun e => by have := HKD.out.2.2; omega)
  rw [← hWE] at d2 hR9 ⊢
  refine zdV [D] WE ⟨by simp, fun E hE => by rw [List.mem_singleton.1 hE]; exact hDE⟩ ?_
  have hzF : (WE.putObj D (.deferred none)).heap[w.heap.size]? = some (.cells #[.int .i64 u1, .int .i64 u2, .int .u64 u3, .string u4, .slice Au ul.length cu] 27 (0, 0)) := (World.putObj_heap_other (by have := HKD.out.2.2; omega)).trans d2
  refine ⟨_, results_cell_row rfl _ _ w.heap.size 27 #[.int .i64 u1, .int .i64 u2, .int .u64 u3, .string u4, .slice Au ul.length cu] (0, 0) _ rfl hzF Try.underlying27 rfl k9, ?_⟩
  refine ⟨_, rfl, Kd.za0 (Kd.zcv (w1 := WE.putObj D (.deferred none)) hR9 (fun k hk _ => World.putObj_heap_other (fun e => hk (e ▸ HKD.out.2.1)))) (fun _ _ => trivial), ?_⟩
  exact zfD HI.out.mv (O := fun k => k = w.heap.size ∨ k = D) ((hmE.mono (fun _ _ h => .inl h)).putObj (r := D) (.inl (.inr rfl)) _) (fun k e => by have := HKD.out.2.2; omega)
theorem zfV (A0 : Option Addr) (c0 : Nat) (t : List (S64)) (merged inn : Bool) (mem : ByteArray) (param : Int) (oa ob oc : Int) (os : ByteArray) (Ao : Option Addr) (co : Nat) (lo : List (S35)) (a b c : Int) (s : ByteArray) (Av : Option Addr) (cv : Nat) (lv : List (S35))
  (w : World) (n₀ bv bo bi bt bm bp bg : Nat) (hn0 : n₀ ≤ w.heap.size) (hnv : n₀ ≤ bv) (hbo : bo ≠ bv)
  (hv : w.heap[bv]? = some (.cells #[.int .i64 a, .int .i64 b, .int .u64 c, .string s, .slice Av lv.length cv] 27 (0, 0)))
  (hcap : Caps A0 c0 t.length merged inn mem param oa ob oc os Ao co lo.length bo bi bt bm bp bg w)
  (hcl : ∀ w', Below n₀ w w' → Calls Try.prog 52 #[.slice Av lv.length cv] w' fun e w'' => ∃ v, e = .returned v ∧ Kd.R k35 35 w'' w'.heap.size (fun _ => True) v lv ∧ Below w'.heap.size w' w'')
  (hoa : oa ≠ 7) :
  Calls Try.prog 54 #[.pointer (some ⟨bv, 0, none⟩), .pointer (some ⟨bo, 0, none⟩), .pointer (some ⟨bi, 0, none⟩), .pointer (some ⟨bt, 0, none⟩), .pointer (some ⟨bm, 0, none⟩), .pointer (some ⟨bp, 0, none⟩), .pointer (some ⟨bg, 0, none⟩)] w (EntZ n₀ (fun k => k = bv) 0 w (some (a, b, c, s, lv))) := by
 have hu27 := Try.underlying27
 obtain ⟨W1, hW1⟩ : ∃ W1, W1 = w.alloc (.cells #[.int .i64 0, .int .i64 0, .int .u64 0, .string ⟨#[]⟩, .slice none 0 0] 27) := ⟨_, rfl⟩
 have hb1 : Below w.heap.size w W1 := by rw [hW1]; exact (Below.refl _ _).alloc (Nat.le_refl _) _
 have k1 : W1.heap[w.heap.size]? = some (.cells #[.int .i64 0, .int .i64 0, .int .u64 0, .string ⟨#[]⟩, .slice none 0 0] 27 (0, 0)) := by rw [hW1]; exact at_new _ _ rfl
 have hv1 := (hb1.block _ (zai hv)).trans hv
 have hcap1 := hcap.below hb1
 have HCL := zaa.mk (hcl W1 (hb1.mono hn0))
 have hvr := hv1
 rw [hW1] at hvr
 obtain ⟨_, _, _, _, x4⟩ := cells5 hvr
 have HW1 := zaa.mk hW1
 have HK1 := zaa.mk (And.intro k1 (And.intro hv1 hcap1))
 have HB1 := zaa.mk hb1
 clear hvr hW1 k1 hv1 hcap1 hb1 hcl
 refine (callsIn_wide (n := 6)).1 ?_
 refine zdq Try.func54 rfl trivial ?_ rfl
 simp only [Try.ntmps54, List.size_toArray, List.length_cons, List.length_nil, Nat.reduceAdd, Nat.reduceSub, Array.replicate_succ, Array.replicate_zero, List.push_toArray, List.append_toArray, List.nil_append, List.cons_append]
 refine zcA (fun K hK => ?_)
 gi_wp2
 refine zcA (fun K hK => ?_)
 gi_wp2
 rw [← HW1.out]
 refine ⟨trivial, (callsIn_wide.2 HCL.out).mono ?_⟩
 rintro e w2 ⟨v2, rfl, hR2, hb2⟩
 obtain ⟨A2, c2, hv2⟩ := Kd.zbj hR2
 subst hv2
 have hk2 := (hb2.block _ (zai HK1.out.1)).trans HK1.out.1
 have hvv := (hb2.block _ (zai HK1.out.2.1)).trans HK1.out.2.1
 have hcap2 := HK1.out.2.2.below hb2
 have hB2 := HB1.out.trans (hb2.mono HB1.out.size)
 obtain ⟨z0, z1, z2, z3, z4⟩ := cells5 hvv
 have fz4 := free_at hvv 4
 obtain ⟨W3, hW3⟩ : ∃ W3, W3 = w2.setCell ⟨bv, 4, none⟩ (.slice A2 lv.length c2) := ⟨_, rfl⟩
 have hfar : ∀ k, k ≠ bv → W3.heap[k]? = w2.heap[k]? := fun k hk => by rw [hW3]; exact Below.heap_setCell _ _ _ _ hk
 have hcap3 := hcap2.far hvv hbo (fun k hk _ => hfar k hk)
 have hlv : bv < w.heap.size := zai hv
 have hk3 := (hfar _ (show w.heap.size ≠ bv by omega)).trans hk2
 have hv3 : W3.heap[bv]? = some (.cells #[.int .i64 a, .int .i64 b, .int .u64 c, .string s, .slice A2 lv.length c2] 27 (0, 0)) := by rw [hW3]; exact zaf hvv 4 _ rfl
 have hR3 : Kd.R k35 35 W3 W1.heap.size (fun _ => True) (.slice A2 lv.length c2) lv := by rw [hW3]; exact Kd.R_set hR2 hvv d9 4 _
 have hB3 : Below n₀ w W3 := by rw [hW3]; exact zcj (hB2.mono hn0) hnv _
 have hm3 : Mv (fun k => k = bv) w W3 := by rw [hW3]; exact (Mv.zb2 hB2 (fun k => k = bv)).setCell (p := ⟨bv, 4, none⟩) (.inl rfl) _
 have hs3 : W3.heap.size = w2.heap.size := by rw [hW3]; simp
 have hco := hcap3.o
 have hci := hcap3.i
 rw [hW3] at hco hci
 obtain ⟨o0, _, _, _, o4⟩ := cells5 hco
 have i0 := zad hci 0
 simp only [List.getElem?_toArray, List.getElem?_cons_zero] at i0
 have hq1 : (oa != 7) = true := by simpa using hoa
 have hq2 : (oa == 7) = false := by simpa using hoa
 have hq3 : decide (oa = 7) = false := decide_eq_false hoa
 have HQ := zaa.mk hoa
 obtain ⟨y0, y1, y2, y3, y4⟩ := cells5 hv3
 obtain ⟨p0, p1, p2, p3, p4⟩ := cells5 hk3
 have f0 := free_at hk3 0
 have f1 := free_at hk3 1
 have f2 := free_at hk3 2
 have f3 := free_at hk3 3
 have f4 := free_at hk3 4
 rw [hW3] at y0 y1 y2 y3 y4 p0 p1 p2 p3 p4 f0 f1 f2 f3 f4
 have H3 := zaa.mk (And.intro hcap3 (And.intro hk3 (And.intro hv3 (And.intro hR3 (And.intro hB3 hm3)))))
 have HW3 := zaa.mk hW3
 have HSZ := zaa.mk (show w.heap.size + 1 ≤ W3.heap.size by have h1 := zai hk3; omega)
 clear x4 hR2 hb2 hk2 hvv hcap2 hB2 hfar hcap3 hk3 hv3 hR3 hB3 hm3 hco hci hW3 hs3 HCL HK1 hoa
 gi_wp2
 refine zjH ?_
 gi_wp2
 rw [← HW3.out]
 obtain ⟨hcap3, hk3, hv3, hR3, hB3, hm3⟩ := H3.out
 have d2 := zaf (zaf (zaf (zaf (zaf hk3 0 (.int .i64 a) rfl) 1 (.int .i64 b) rfl) 2 (.int .u64 c) rfl) 3 (.string s) rfl) 4 (.slice A2 lv.length c2) rfl
 have hR9 := Kd.R_set (Kd.R_set (Kd.R_set (Kd.R_set (Kd.R_set hR3 hk3 d9 0 (.int .i64 a)) (zaf hk3 0 (.int .i64 a) rfl) d9 1 (.int .i64 b)) (zaf (zaf hk3 0 (.int .i64 a) rfl) 1 (.int .i64 b) rfl) d9 2 (.int .u64 c)) (zaf (zaf (zaf hk3 0 (.int .i64 a) rfl) 1 (.int .i64 b) rfl) 2 (.int .u64 c) rfl) d9 3 (.string s)) (zaf (zaf (zaf (zaf hk3 0 (.int .i64 a) rfl) 1 (.int .i64 b) rfl) 2 (.int .u64 c) rfl) 3 (.string s) rfl) d9 4 (.slice A2 lv.length c2)
 obtain ⟨WE, hWE⟩ : ∃ WE, WE = ((((W3.setCell ⟨w.heap.size, 0, none⟩ (.int .i64 a)).setCell ⟨w.heap.size, 1, none⟩ (.int .i64 b)).setCell ⟨w.heap.size, 2, none⟩ (.int .u64 c)).setCell ⟨w.heap.size, 3, none⟩ (.string s)).setCell ⟨w.heap.size, 4, none⟩ (.slice A2 lv.length c2) := ⟨_, rfl⟩
 have hmE : Mv (fun k => k = w.heap.size) W3 WE := by
  rw [hWE]
  exact (((((Mv.refl (fun k => k = w.heap.size) W3).setCell (p := ⟨w.heap.size, 0, none⟩) (.inl rfl) _).setCell (p := ⟨w.heap.size, 1, none⟩) (.inl rfl) _).setCell (p := ⟨w.heap.size, 2, none⟩) (.inl rfl) _).setCell (p := ⟨w.heap.size, 3, none⟩) (.inl rfl) _).setCell (p := ⟨w.heap.size, 4, none⟩) (.inl rfl) _
 have hbsz := HB1.out.size
 rw [← hWE] at d2 hR9 ⊢
 refine zdV [] WE ⟨by simp, fun E hE => by cases hE⟩ ?_
 refine ⟨_, results_cell_row rfl _ _ w.heap.size 27 #[.int .i64 a, .int .i64 b, .int .u64 c, .string s, .slice A2 lv.length c2] (0, 0) _ rfl d2 Try.underlying27 rfl k9, ?_⟩
 refine ⟨_, rfl, Kd.zbi hR9 (Nat.le_trans hn0 hbsz), ?_⟩
 exact zfD hm3 hmE (fun k e => by omega)
def Thr (label : Int) (w : World) (o : Option Val) (e : Ending) (w' : World) : Prop :=
 match o with
 | some (a, b, c, s, l) => ∃ v, e = .returned (.tuple #[.agg #[.int .i64 a, .int .i64 b, .int .u64 c, .string s, v], .int .i64 0]) ∧ Kd.R k35 35 w' w.heap.size (fun _ => True) v l ∧ Below w.heap.size w w'
 | none => e = .returned (.tuple #[.agg #[.int .i64 0, .int .i64 0, .int .u64 0, .string ⟨#[]⟩, .slice none 0 0], .int .i64 label]) ∧ Below w.heap.size w w'
theorem zdC (A0 : Option Addr) (c0 n0 : Nat) (merged inn : Bool) (mem : ByteArray) (param : Int) (oa ob oc : Int) (os : ByteArray) (Ao : Option Addr) (co no : Nat) (a b c : Int) (s : ByteArray) (Av : Option Addr) (cv nv : Nat) (label : Int) (o : Option Val) (w : World)
  (he : ∀ (w1 w' : World), Below w.heap.size w w1 → Below w1.heap.size w1 w' → w.heap.size < w1.heap.size → ∀ bv bo bi bt bm bp bg : Nat, w.heap.size ≤ bv → bo ≠ bv → w'.heap[bv]? = some (.cells #[.int .i64 a, .int .i64 b, .int .u64 c, .string s, .slice Av nv cv] 27 (0, 0)) →
   Caps A0 c0 n0 merged inn mem param oa ob oc os Ao co no bo bi bt bm bp bg w' →
   Calls Try.prog 54 #[.pointer (some ⟨bv, 0, none⟩), .pointer (some ⟨bo, 0, none⟩), .pointer (some ⟨bi, 0, none⟩), .pointer (some ⟨bt, 0, none⟩), .pointer (some ⟨bm, 0, none⟩), .pointer (some ⟨bp, 0, none⟩), .pointer (some ⟨bg, 0, none⟩)] w' (EntZ w.heap.size (fun k => k = bv) label w' o)) :
  Calls Try.prog 37 #[.slice A0 n0 c0, .agg #[.int .i64 oa, .int .i64 ob, .int .u64 oc, .string os, .slice Ao no co], .string mem, .int .i64 param, .agg #[.int .i64 a, .int .i64 b, .int .u64 c, .string s, .slice Av nv cv], .bool merged, .bool inn] w (Thr label w o) := by
 have hu27 := Try.underlying27
 obtain ⟨W1, hW1⟩ : ∃ W1, W1 = ((((((((w.alloc (.cells #[.slice A0 n0 c0] 22)).alloc (.cells #[.int .i64 oa, .int .i64 ob, .int .u64 oc, .string os, .slice Ao no co] 27)).alloc (.cells #[.string mem] 9)).alloc (.cells #[.int .i64 param] 3)).alloc (.cells #[.int .i64 a, .int .i64 b, .int .u64 c, .string s, .slice Av nv cv] 27)).alloc (.cells #[.bool merged] 4)).alloc (.cells #[.bool inn] 4)).alloc (.cells #[.int .i64 0, .int .i64 0, .int .u64 0, .string ⟨#[]⟩, .slice none 0 0] 27)) := ⟨_, rfl⟩
 have hb1 : Below w.heap.size w W1 := by rw [hW1]; exact ((((((((Below.refl _ _).alloc (Nat.le_refl _) _).alloc (by simp; try omega) _).alloc (by simp; try omega) _).alloc (by simp; try omega) _).alloc (by simp; try omega) _).alloc (by simp; try omega) _).alloc (by simp; try omega) _).alloc (by simp; try omega) _
 have r0 : W1.heap[w.heap.size]? = some (.cells #[.slice A0 n0 c0] 22 (0, 0)) := by rw [hW1]; exact zal (zal (zal (zal (zal (zal (zal (at_new _ _ rfl) _) _) _) _) _) _) _
 have r1 : W1.heap[w.heap.size + 1]? = some (.cells #[.int .i64 oa, .int .i64 ob, .int .u64 oc, .string os, .slice Ao no co] 27 (0, 0)) := by rw [hW1]; exact zal (zal (zal (zal (zal (zal (at_new _ _ s9) _) _) _) _) _) _
 have r2 : W1.heap[w.heap.size + 1 + 1]? = some (.cells #[.string mem] 9 (0, 0)) := by rw [hW1]; exact zal (zal (zal (zal (zal (at_new _ _ s9) _) _) _) _) _
 have r3 : W1.heap[w.heap.size + 1 + 1 + 1]? = some (.cells #[.int .i64 param] 3 (0, 0)) := by rw [hW1]; exact zal (zal (zal (zal (at_new _ _ s9) _) _) _) _
 have r4 : W1.heap[w.heap.size + 1 + 1 + 1 + 1]? = some (.cells #[.int .i64 a, .int .i64 b, .int .u64 c, .string s, .slice Av nv cv] 27 (0, 0)) := by rw [hW1]; exact zal (zal (zal (at_new _ _ s9) _) _) _
 have r5 : W1.heap[w.heap.size + 1 + 1 + 1 + 1 + 1]? = some (.cells #[.bool merged] 4 (0, 0)) := by rw [hW1]; exact zal (zal (at_new _ _ s9) _) _
 have r6 : W1.heap[w.heap.size + 1 + 1 + 1 + 1 + 1 + 1]? = some (.cells #[.bool inn] 4 (0, 0)) := by rw [hW1]; exact zal (at_new _ _ s9) _
 have r7 : W1.heap[w.heap.size + 1 + 1 + 1 + 1 + 1 + 1 + 1]? = some (.cells #[.int .i64 0, .int .i64 0, .int .u64 0, .string ⟨#[]⟩, .slice none 0 0] 27 (0, 0)) := by rw [hW1]; exact at_new _ _ s9
 have hs1 : W1.heap.size = w.heap.size + 8 := by rw [hW1]; simp
 have HC := zaa.mk (zfZ w.heap.size (fun k => k = w.heap.size + 1 + 1 + 1 + 1) 54 #[.pointer (some ⟨w.heap.size + 1 + 1 + 1 + 1, 0, none⟩), .pointer (some ⟨w.heap.size + 1, 0, none⟩), .pointer (some ⟨w.heap.size + 1 + 1 + 1 + 1 + 1 + 1, 0, none⟩), .pointer (some ⟨w.heap.size, 0, none⟩), .pointer (some ⟨w.heap.size + 1 + 1, 0, none⟩), .pointer (some ⟨w.heap.size + 1 + 1 + 1, 0, none⟩), .pointer (some ⟨w.heap.size + 1 + 1 + 1 + 1 + 1, 0, none⟩)] label o W1 (.inr rfl) hb1.size (fun k e => by omega) (fun w' hb => he W1 w' hb1 hb o9 _ _ _ _ _ _ _ o9 o9 ((hb.block _ (zai r4)).trans r4)
  ⟨(hb.block _ (zai r1)).trans r1, (hb.block _ (zai r6)).trans r6, (hb.block _ (zai r0)).trans r0, (hb.block _ (zai r2)).trans r2, (hb.block _ (zai r3)).trans r3, (hb.block _ (zai r5)).trans r5⟩))
 have HB := zaa.mk hb1
 have HK := zaa.mk r7
 have HW := zaa.mk hW1
 have hmf : ∀ (fn : Fn) (first cap : Array Value) (w : World), (Instr.makeFunc fn first cap).run Try.prog w = .ok (.func fn first cap) w := fun _ _ _ _ => rfl
 clear he hb1 r0 r1 r2 r3 r4 r5 r6 r7 hW1 hs1
 go_enter Try.func37, Try.ntmps37
 go_wp2_with fail
 rw [← HW.out]
 refine HC.out.mono ?_
 intro e w2 hE
 cases o with
 | none =>
  obtain ⟨rfl, hb13⟩ := hE
  have q2 := hb13.at HK.out (fun e => by omega)
  obtain ⟨p0, p1, p2, p3, p4⟩ := cells5 q2
  have f0 := free_at q2 0
  have f1 := free_at q2 1
  have f2 := free_at q2 2
  have f3 := free_at q2 3
  have f4 := free_at q2 4
  have Q13 := zaa.mk q2
  have HB13 := zaa.mk (HB.out.trans (hb13.below HB.out.size (fun k e => by omega)))
  clear q2 hb13 HC
  go_wp2_with fail
  have d2 := zaf (zaf (zaf (zaf (zaf Q13.out 0 (.int .i64 0) rfl) 1 (.int .i64 0) rfl) 2 (.int .u64 0) rfl) 3 (.string ⟨#[]⟩) rfl) 4 (.slice none 0 0) rfl
  refine bodyPost_ret (zch rfl _ _ (w.heap.size + 1 + 1 + 1 + 1 + 1 + 1 + 1) 27 #[.int .i64 0, .int .i64 0, .int .u64 0, .string ⟨#[]⟩, .slice none 0 0] (0, 0) _ rfl d2 Try.underlying27 rfl k9) rfl ?_
  exact ⟨rfl, by repeat (first | exact HB13.out | refine zaR ?_ (show w.heap.size ≤ w.heap.size + 1 + 1 + 1 + 1 + 1 + 1 + 1 by omega))⟩
 | some o =>
  obtain ⟨r1, r2, r3, r4, l5⟩ := o
  obtain ⟨v13, rfl, hR13, hb13⟩ := hE
  obtain ⟨A13, c13, rfl⟩ := Kd.zbj hR13
  have q2 := hb13.at HK.out (fun e => by omega)
  obtain ⟨p0, p1, p2, p3, p4⟩ := cells5 q2
  have f0 := free_at q2 0
  have f1 := free_at q2 1
  have f2 := free_at q2 2
  have f3 := free_at q2 3
  have f4 := free_at q2 4
  have Q13 := zaa.mk q2
  have HB13 := zaa.mk (HB.out.trans (hb13.below HB.out.size (fun k e => by omega)))
  have HR13 := zaa.mk hR13
  clear q2 hR13 hb13 HC
  go_wp2_with fail
  have d2 := zaf (zaf (zaf (zaf (zaf Q13.out 0 (.int .i64 r1) rfl) 1 (.int .i64 r2) rfl) 2 (.int .u64 r3) rfl) 3 (.string r4) rfl) 4 (.slice A13 l5.length c13) rfl
  refine bodyPost_ret (zch rfl _ _ (w.heap.size + 1 + 1 + 1 + 1 + 1 + 1 + 1) 27 #[.int .i64 r1, .int .i64 r2, .int .u64 r3, .string r4, .slice A13 l5.length c13] (0, 0) _ rfl d2 Try.underlying27 rfl k9) rfl ?_
  have HR9 := Kd.R_set (Kd.R_set (Kd.R_set (Kd.R_set (Kd.R_set HR13.out Q13.out d9 0 (.int .i64 r1)) (zaf Q13.out 0 (.int .i64 r1) rfl) d9 1 (.int .i64 r2)) (zaf (zaf Q13.out 0 (.int .i64 r1) rfl) 1 (.int .i64 r2) rfl) d9 2 (.int .u64 r3)) (zaf (zaf (zaf Q13.out 0 (.int .i64 r1) rfl) 1 (.int .i64 r2) rfl) 2 (.int .u64 r3) rfl) d9 3 (.string r4)) (zaf (zaf (zaf (zaf Q13.out 0 (.int .i64 r1) rfl) 1 (.int .i64 r2) rfl) 2 (.int .u64 r3) rfl) 3 (.string r4) rfl) d9 4 (.slice A13 l5.length c13)
  exact ⟨_, rfl, HR9, by repeat (first | exact HB13.out | refine zaR ?_ (show w.heap.size ≤ w.heap.size + 1 + 1 + 1 + 1 + 1 + 1 + 1 by omega))⟩
end Go.Proofs.YtinkbljjpafadaaTab
end

section
namespace Go.Proofs.Ytinkbljjpafadaa.PAll
open Go.RowKit Go.Proofs.YtinkbljjpafadaaW.PrintWords Go.Proofs.YtinkbljjpafadaaW.PrintLast Go.Proofs.YtinkbljjpafadaaW.zaT
attribute [local go_sem] za7 zba zbo zbp zaW zaV za8 za9
open Go.Proofs.YtinkbljjpafadaaTab in
def zbZ.f (l0 : List (S64)) (a1 : ByteArray) : Option (List (S58)) := if l0.length < 4398046511104 ∧ (zb5 l0 a1).length < 4398046511104 then some (zb5 l0 a1) else none
open Go.Proofs.YtinkbljjpafadaaTab in
theorem zbZ.calls (A0 : Option Addr) (c0 : Nat) (l0 : List (S64)) (a1 : ByteArray) (r : List (S58)) (w : World) (hr0 : Kd.C k64 w A0 l0.length l0) (hc0 : l0.length ≤ c0) (h : zbZ.f l0 a1 = some r) :
  Calls Try.prog 42 #[.slice A0 l0.length c0, .string a1] w fun e w' => ∃ v0_ : Value, e = .returned (v0_) ∧ Kd.R k58 58 w' w.heap.size (fun _ => True) v0_ r ∧ Below w.heap.size w w' := by
 unfold zbZ.f at h
 by_cases hl : l0.length < 4398046511104 ∧ (zb5 l0 a1).length < 4398046511104
 ·
  rw [if_pos hl] at h
  obtain rfl := Option.some.inj h
  exact zeh A0 c0 l0 a1 w hr0 hl.1 hl.2
 ·
  rw [if_neg hl] at h; cases h
def zaY.small (l0 : List (S64)) : Bool := decide (l0.length < 4398046511104) && l0.all fun x => decide (x.f3.length < 4398046511104) && x.f3.all fun m => decide (m.f1.length < 4398046511104)
open Go.Proofs.YtinkbljjpafadaaTab in
theorem zaY.zhK {l0 : List (S64)} (h : zaY.small l0 = true) : Small l0 := by
 unfold zaY.small at h
 simp only [Bool.and_eq_true, decide_eq_true_eq, List.all_eq_true] at h
 have hm : ∀ p, p < l0.length → clsAt l0 p ∈ l0 := fun p hp => by
  unfold clsAt zar
  rw [Int.toNat_natCast, List.getD_eq_getElem?_getD, List.getElem?_eq_getElem hp]
  exact List.getElem_mem hp
 exact ⟨h.1, fun p hp => (h.2 _ (hm p hp)).1, fun p hp m hm' => (h.2 _ (hm p hp)).2 m hm'⟩
open Go.Proofs.YtinkbljjpafadaaTab in
def zaY.all (l0 : List (S64)) (a1 : ByteArray) : Nat := ((lineL l0 a1).reverse.flatMap fun p => (clsAt l0 p).f3).length
open Go.Proofs.YtinkbljjpafadaaTab in
def zaY.f (l0 : List (S64)) (a1 : ByteArray) : Option (List (S61)) := if zaY.small l0 = true ∧ zaY.all l0 a1 < 2199023255552 then some (zdL l0 a1) else none
open Go.Proofs.YtinkbljjpafadaaTab in
theorem zaY.calls (A0 : Option Addr) (c0 : Nat) (l0 : List (S64)) (a1 : ByteArray) (r : List (S61)) (w : World) (hr0 : Kd.C k64 w A0 l0.length l0) (hc0 : l0.length ≤ c0) (h : zaY.f l0 a1 = some r) :
  Calls Try.prog 43 #[.slice A0 l0.length c0, .string a1] w fun e w' => ∃ v0_ : Value, e = .returned (v0_) ∧ Kd.S k61 61 w' w.heap.size (fun _ => True) v0_ r ∧ Below w.heap.size w w' := by
 unfold zaY.f at h
 by_cases hl : zaY.small l0 = true ∧ zaY.all l0 a1 < 2199023255552
 ·
  rw [if_pos hl] at h
  obtain rfl := Option.some.inj h
  exact zfQ A0 c0 l0 a1 w hr0 (zaY.zhK hl.1) hl.2
 ·
  rw [if_neg hl] at h; cases h
def zaZ.f (l0 : List (S35)) : Option (List (S35)) := if l0.length < 4398046511104 then some l0 else none
theorem zaZ.infoL : (Try.prog.info? 35).map (fun i => (i.zero, i.size, i.bytes)) = some (some (.agg #[(.bool false), (.string ⟨#[]⟩), (.int .i64 0)]), 3, 32) := by kernel_rfl
theorem zaZ.empty {α : Type} (d : Kd α) (W : World) (e base : Nat) (hb : base ≤ W.heap.size) : d.R e (W.alloc (.cells #[] e)) base (fun _ => True) (.slice (some ⟨W.heap.size, 0, none⟩) 0 0) [] :=
 ⟨fun _ _ => trivial, zct.lit (ps := []) (inner := []) W base (Reps.none _ _) hb s9⟩
theorem zaZ.calls (A0 : Option Addr) (c0 : Nat) (l0 : List (S35)) (r : List (S35)) (w : World) (hr0 : Kd.C k35 w A0 l0.length l0) (hc0 : l0.length ≤ c0) (h : zaZ.f l0 = some r) :
  Calls Try.prog 52 #[.slice A0 l0.length c0] w fun e w' => ∃ v0_ : Value, e = .returned (v0_) ∧ Kd.R k35 35 w' w.heap.size (fun _ => True) v0_ r ∧ Below w.heap.size w w' := by
 unfold zaZ.f at h
 have hl : l0.length < 4398046511104 := by
  by_cases hl : l0.length < 4398046511104
  ·
   exact hl
  ·
   rw [if_neg hl] at h; cases h
 rw [if_pos hl] at h
 obtain rfl := Option.some.inj h
 clear h
 have q59 : ∀ (w : World) (a : Option Addr) (n c n' c' : Nat), (binOp .eql 25 (.slice a n c) (.slice none n' c')).run Try.prog w = .ok (.bool a.isNone) w := fun w a n c n' c' => Lib.run_eql_slice_nil w _ _ a n c n' c' Try.underlying25
 have HR0 := zaa.mk hr0
 cases A0 with
 | none =>
  have hl0 : l0 = [] := by
   have h0 : l0.length = 0 := by
    rcases Nat.eq_zero_or_pos l0.length with h0 | h0
    ·
     exact h0
    ·
     obtain ⟨ad, h, _⟩ := hr0.2.2 h0
     cases h
   exact List.eq_nil_of_length_eq_zero h0
  subst hl0
  clear hr0
  go_enter Try.func52, Try.ntmps52
  go_wp2_with fail
  go_ret
  exact ⟨_, rfl, Kd.R_nil _ _ _ _ _, Below.refl _ _⟩
 | some ad =>
  clear hr0
  go_enter Try.func52, Try.ntmps52
  go_wp2_with ((with_reducible refine zaL (N := 7) rfl ?_); refine Kd.zcz k35 (Rr := k35.K w) (w0 := w) (W := w.alloc (.cells #[] 35)) w.heap.size rfl (.tmp 5) (.tmp 6) 25 35 (.agg #[(.bool false), (.string ⟨#[]⟩), (.int .i64 0)]) 32 rfl Try.underlying25 zaZ.infoL rfl d9 o9 (.slice (some ⟨w.heap.size, 0, none⟩) 0 0) [] l0 (some ad) l0.length c0 (fun _ => True) (fun _ => False) rfl rfl (zaZ.empty _ _ _ _ (Nat.le_refl _)) (Kd.zbr HR0.out _) (fun _ _ h => h) (fun _ h => h.elim) (fun _ _ => trivial) ((Below.refl _ _).alloc (Nat.le_refl _) _) ?aS ?aL ?_; (case aS => simp); (case aL => simp; omega); intro v1 w4 ho4 hb4 _ _; have HO4 := zaa.mk ho4; have HB4 := zaa.mk hb4; clear ho4 hb4)
  go_ret
  exact ⟨_, rfl, HO4.out, HB4.out⟩
def chain_of.f (a0_0 : Bool) (a0_1 : ByteArray) (a0_2 : Int) : Option (Bool × ByteArray) := some (a0_0, a0_1)
def zbP.f (a0 : ByteArray) : Option Bool := if a0.size ≤ 9223372036854775807 then some (Go.Proofs.YtinkbljjpafadaaWords.word Go.Proofs.YtinkbljjpafadaaWords.great a0) else none
theorem zbP.calls (a0 : ByteArray) (r : Bool) (w : World) (h : zbP.f a0 = some r) :
  Calls Try.prog 27 #[.string a0] w fun e w' => e = .returned (.bool r) ∧ Below w.heap.size w w' := by
 unfold zbP.f at h
 by_cases hs : a0.size ≤ 9223372036854775807
 ·
  rw [if_pos hs] at h
  obtain rfl := Option.some.inj h
  clear h
  obtain ⟨b, hb⟩ : ∃ b, b = Go.Proofs.YtinkbljjpafadaaWords.word Go.Proofs.YtinkbljjpafadaaWords.great a0 := ⟨_, rfl⟩
  have HB := zaa.mk hb
  rw [← hb]
  clear hb
  go_enter Try.func27, Try.ntmps27
  go_wp2_with (go_at_call 40; refine (Go.Proofs.YtinkbljjpafadaaWords.zh8 _ _ hs).mono ?_; rintro e w' ⟨rfl, hb⟩; rw [← HB.out]; have HW := zaa.mk hb; clear hb)
  go_ret
  exact ⟨rfl, HW.out⟩
 ·
  rw [if_neg hs] at h; cases h
def zck.f (a0 : ByteArray) : Option (Int × Int) := some (Go.Proofs.YtinkbljjpafadaaWords.tag2 a0)
theorem zck.calls (a0 : ByteArray) (r1 : Int) (r2 : Int) (w : World) (h : zck.f a0 = some (r1, r2)) :
  Calls Try.prog 44 #[.string a0] w fun e w' => e = .returned (.tuple #[.int .i64 r1, .int .i64 r2]) ∧ Below w.heap.size w w' :=
 Go.Proofs.YtinkbljjpafadaaWords.zjv a0 w r1 r2 (Option.some.inj h)
def zb9.f (a0 : ByteArray) : Option (Bool) := (zck.f a0).bind fun bt152 => (some (bt152.2 == 0))
theorem zb9.calls (a0 : ByteArray) (r : Bool) (w : World) (h : zb9.f a0 = some r) :
  Calls Try.prog 29 #[.string a0] w fun e w' => e = .returned (.bool r) ∧ Below w.heap.size w w' := by
 have HB := zaa.mk (Below.refl w.heap.size w)
 have H : ((zck.f a0).bind fun bt152 => (some (bt152.2 == 0))) = some r := h
 clear h
 replace H := Option.bind_eq_some_iff.mp H
 obtain ⟨⟨t152, t153⟩, A20, H⟩ := H
 replace H : (some (t153 == 0)) = some r := H
 have A2 := zaa.mk A20
 clear A20
 obtain rfl := Option.some.inj H
 go_enter Try.func29, Try.ntmps29
 go_wp2_with (first | ((with_reducible refine za4 (f := 44) rfl ?_); refine zbX (some 7) rfl rfl Try.func44 k9 rfl #[.string a0] rfl m9 ?_; (with_reducible refine (zck.calls a0 t152 t153 _ A2.out).mono ?_); rintro e w3 ⟨rfl, hb⟩; refine ⟨_, rfl, ?_⟩; have n0_ := zaa.mk (zan (by repeat (first | (with_reducible first | exact HB.out | apply zbQ | apply zbm | apply zb8) | exact HB.out)) hb); clear HB; have HB := n0_; clear n0_; (try clear hb); (try clear hb2); (try clear hk); (try clear hi)))
 go_ret
 exact ⟨by first | rfl | (simp [zaz, zaA] <;> rfl) | (simp [*, zaz, zaA] <;> rfl), by repeat (first | (with_reducible first | exact HB.out | apply zbQ | apply zbm | apply zb8) | exact HB.out)⟩
def zb3.f (a0 : ByteArray) : Option (Int) := (zb9.f a0).bind fun t154 => (if t154 = true then (some 1) else (if a0.toList = ([63] : List UInt8) then (some 2) else ((zbP.f a0).bind fun t155 => (if t155 = true then (some 3) else (some 0)))))
theorem zb3.calls (a0 : ByteArray) (r : Int) (w : World) (h : zb3.f a0 = some r) :
  Calls Try.prog 51 #[.string a0] w fun e w' => e = .returned (.int .i64 r) ∧ Below w.heap.size w w' := by
 have HB := zaa.mk (Below.refl w.heap.size w)
 have H : ((zb9.f a0).bind fun t154 => (if t154 = true then (some 1) else (if a0.toList = ([63] : List UInt8) then (some 2) else ((zbP.f a0).bind fun t155 => (if t155 = true then (some 3) else (some 0)))))) = some r := h
 clear h
 replace H := Option.bind_eq_some_iff.mp H
 obtain ⟨t154, A20, H⟩ := H
 replace H : (if t154 = true then (some 1) else (if a0.toList = ([63] : List UInt8) then (some 2) else ((zbP.f a0).bind fun t155 => (if t155 = true then (some 3) else (some 0))))) = some r := H
 have A2 := zaa.mk A20
 clear A20
 by_cases c3 : t154 = true
 ·
  subst c3
  have H1 : (some 1) = some r := by rw [if_pos rfl] at H; exact H
  clear H
  have H := H1
  clear H1
  obtain rfl := Option.some.inj H
  go_enter Try.func51, Try.ntmps51
  go_wp2_with (first | ((with_reducible refine za4 (f := 29) rfl ?_); refine zbX (some 5) rfl rfl Try.func29 k9 rfl #[.string a0] rfl m9 ?_; (with_reducible refine (zb9.calls a0 true _ A2.out).mono ?_); rintro e w4 ⟨rfl, hb⟩; refine ⟨_, rfl, ?_⟩; replace HB := zaa.mk (zan (bl HB.out) hb); (try clear hb); (try clear hb2); (try clear hk); (try clear hi)))
  go_ret
  exact ⟨by first | rfl | (simp [zaz, zaA] <;> rfl) | (simp [*, zaz, zaA] <;> rfl), bl HB.out⟩
 ·
  replace c3 := Bool.eq_false_iff.mpr c3
  subst c3
  have H1 : (if a0.toList = ([63] : List UInt8) then (some 2) else ((zbP.f a0).bind fun t155 => (if t155 = true then (some 3) else (some 0)))) = some r := by rw [if_neg (show ¬ (false = true) by decide)] at H; exact H
  clear H
  have H := H1
  clear H1
  by_cases c5 : a0.toList = ([63] : List UInt8)
  ·
   rw [if_pos c5] at H
   have c5b0 : (a0.toList == ([63] : List UInt8)) = true := beq_iff_eq.mpr c5
   have c5b1 : (a0.toList != ([63] : List UInt8)) = false := bne_eq_false_iff_eq.mpr c5
   clear c5
   obtain rfl := Option.some.inj H
   go_enter Try.func51, Try.ntmps51
   go_wp2_with (first | ((with_reducible refine za4 (f := 29) rfl ?_); refine zbX (some 5) rfl rfl Try.func29 k9 rfl #[.string a0] rfl m9 ?_; (with_reducible refine (zb9.calls a0 false _ A2.out).mono ?_); rintro e w6 ⟨rfl, hb⟩; refine ⟨_, rfl, ?_⟩; replace HB := zaa.mk (zan (bl HB.out) hb); (try clear hb); (try clear hb2); (try clear hk); (try clear hi)))
   go_ret
   exact ⟨by first | rfl | (simp [zaz, zaA] <;> rfl) | (simp [*, zaz, zaA] <;> rfl), bl HB.out⟩
  ·
   rw [if_neg c5] at H
   have c5b0 : (a0.toList == ([63] : List UInt8)) = false := beq_eq_false_iff_ne.mpr c5
   have c5b1 : (a0.toList != ([63] : List UInt8)) = true := bne_iff_ne.mpr c5
   replace H := Option.bind_eq_some_iff.mp H
   obtain ⟨t155, A70, H⟩ := H
   replace H : (if t155 = true then (some 3) else (some 0)) = some r := H
   have A7 := zaa.mk A70
   clear A70
   by_cases c8 : t155 = true
   ·
    subst c8
    have H1 : (some 3) = some r := by rw [if_pos rfl] at H; exact H
    clear H
    have H := H1
    clear H1
    obtain rfl := Option.some.inj H
    go_enter Try.func51, Try.ntmps51
    go_wp2_with (first | ((with_reducible refine za4 (f := 29) rfl ?_); refine zbX (some 5) rfl rfl Try.func29 k9 rfl #[.string a0] rfl m9 ?_; (with_reducible refine (zb9.calls a0 false _ A2.out).mono ?_); rintro e w9 ⟨rfl, hb⟩; refine ⟨_, rfl, ?_⟩; replace HB := zaa.mk (zan (bl HB.out) hb); (try clear hb); (try clear hb2); (try clear hk); (try clear hi)) | ((with_reducible refine za4 (f := 27) rfl ?_); refine zbX (some 11) rfl rfl Try.func27 k9 rfl #[.string a0] rfl m9 ?_; (with_reducible refine (zbP.calls a0 true _ A7.out).mono ?_); rintro e w10 ⟨rfl, hb⟩; refine ⟨_, rfl, ?_⟩; replace HB := zaa.mk (zan (bl HB.out) hb); (try clear hb); (try clear hb2); (try clear hk); (try clear hi)))
    go_ret
    exact ⟨by first | rfl | (simp [zaz, zaA] <;> rfl) | (simp [*, zaz, zaA] <;> rfl), bl HB.out⟩
   ·
    replace c8 := Bool.eq_false_iff.mpr c8
    subst c8
    have H1 : (some 0) = some r := by rw [if_neg (show ¬ (false = true) by decide)] at H; exact H
    clear H
    have H := H1
    clear H1
    obtain rfl := Option.some.inj H
    go_enter Try.func51, Try.ntmps51
    go_wp2_with (first | ((with_reducible refine za4 (f := 29) rfl ?_); refine zbX (some 5) rfl rfl Try.func29 k9 rfl #[.string a0] rfl m9 ?_; (with_reducible refine (zb9.calls a0 false _ A2.out).mono ?_); rintro e w11 ⟨rfl, hb⟩; refine ⟨_, rfl, ?_⟩; replace HB := zaa.mk (zan (bl HB.out) hb); (try clear hb); (try clear hb2); (try clear hk); (try clear hi)) | ((with_reducible refine za4 (f := 27) rfl ?_); refine zbX (some 11) rfl rfl Try.func27 k9 rfl #[.string a0] rfl m9 ?_; (with_reducible refine (zbP.calls a0 false _ A7.out).mono ?_); rintro e w12 ⟨rfl, hb⟩; refine ⟨_, rfl, ?_⟩; replace HB := zaa.mk (zan (bl HB.out) hb); (try clear hb); (try clear hb2); (try clear hk); (try clear hi)))
    go_ret
    exact ⟨by first | rfl | (simp [zaz, zaA] <;> rfl) | (simp [*, zaz, zaA] <;> rfl), bl HB.out⟩
open Go.Proofs.YtinkbljjpafadaaRF Go.Proofs.YtinkbljjpafadaaHChain in
def zaD.lay (l : List (S35)) (i : Nat) : Lay := ((l.getD i z35).f0, (l.getD i z35).f1, (l.getD i z35).f2)
open Go.Proofs.YtinkbljjpafadaaHChain in
def zaD.ms (l : List (S35)) : List Bool := marked (zaD.lay l) l.length true (marked (zaD.lay l) l.length false (List.replicate l.length false))
def zaD.sel : List (S35) → List Bool → List (S35)
 | x :: r, b :: s => if b = true then x :: zaD.sel r s else zaD.sel r s
 | _, _ => []
theorem zaD.zhM : ∀ (l : List (S35)) (s : List Bool) (x : S35) (b : Bool), l.length = s.length → zaD.sel (l ++ [x]) (s ++ [b]) = zaD.sel l s ++ if b = true then [x] else []
 | [], [], x, b, _ => by cases b <;> simp [zaD.sel]
 | [], _ :: _, _, _, h => by simp at h
 | _ :: _, [], _, _, h => by simp at h
 | y :: r, c :: s, x, b, h => by
  have ih := zaD.zhM r s x b (by simpa using h)
  cases c <;> simp [zaD.sel, ih]
theorem zaD.zjL : ∀ (l : List (S35)) (s : List Bool), (zaD.sel l s).length ≤ l.length
 | [], _ => by simp [zaD.sel]
 | _ :: _, [] => by simp [zaD.sel]
 | y :: r, c :: s => by
  have ih := zaD.zjL r s
  cases c <;> simp [zaD.sel] <;> omega
def zaD.f (l0 : List (S35)) : Option (List (S35)) := if l0.length < 4398046511104 then some (zaD.sel l0 (zaD.ms l0)) else none
theorem zaD.infoK : (Try.prog.info? 100).map (fun i => (i.zero, i.size, i.bytes)) = some (some (.agg #[.bool false]), 1, 1) := by kernel_rfl
theorem zaD.infoL : (Try.prog.info? 35).map (fun i => (i.zero, i.size, i.bytes)) = some (some (.agg #[(.bool false), (.string ⟨#[]⟩), (.int .i64 0)]), 3, 32) := by kernel_rfl
theorem zaD.made (N : Nat) : madeCells #[.bool false] N = (List.replicate N (Value.bool false)).toArray := by
 refine Array.ext (by simp [madeCells]) fun i h1 h2 => ?_
 simp [madeCells, Nat.mod_one]
theorem zaD.make (N : Nat) (hN : N < 4398046511104) (w : World) : (Instr.makeSlice 97 (.int .i64 (N : Int)) (.int .i64 (N : Int))).run Try.prog w = .ok (.slice (some ⟨w.heap.size, 0, none⟩) N N) (w.alloc (.cells ((List.replicate N false).map Value.bool).toArray 100)) := by
 obtain ⟨i0, hi, hzz⟩ := Option.map_eq_some_iff.1 zaD.infoK
 simp only [Prod.mk.injEq] at hzz
 obtain ⟨hz0, hz1, hz2⟩ := hzz
 have := run_make (P := Try.prog) w 97 100 i0 (.agg #[.bool false]) Try.underlying97 hi hz0 .i64 .i64 (N : Int) (N : Int) o9 o9 (by rw [hz2]; omega) o9
 rw [this, hz1]
 simp only [Int.toNat_natCast, Nat.mul_one, List.map_replicate]
 rw [show Value.cells (.agg #[.bool false]) = #[.bool false] from rfl, zaD.made]
open Go.Proofs.YtinkbljjpafadaaRF Go.Proofs.YtinkbljjpafadaaHChain in
theorem zaD.calls (A0 : Option Addr) (c0 : Nat) (l0 : List (S35)) (r : List (S35)) (w : World) (hr0 : Kd.C k35 w A0 l0.length l0) (hc0 : l0.length ≤ c0) (h : zaD.f l0 = some r) :
  Calls Try.prog 39 #[.slice A0 l0.length c0] w fun e w' => ∃ v0_ : Value, e = .returned (v0_) ∧ Kd.R k35 35 w' w.heap.size (fun _ => True) v0_ r ∧ Below w.heap.size w w' := by
 unfold zaD.f at h
 have hlen : l0.length < 4398046511104 := by
  by_cases hl : l0.length < 4398046511104
  ·
   exact hl
  ·
   rw [if_neg hl] at h; cases h
 rw [if_pos hlen] at h
 obtain rfl := Option.some.inj h
 clear h
 have hrd : RdL w.heap.size w A0 l0.length (zaD.lay l0) := fun i hi => by
  obtain ⟨ad, e, h0, h1, h2⟩ := zcR hr0 (i : Int) o9 o9
  rw [Int.toNat_natCast] at h0 h1 h2
  exact ⟨ad, e, by have := World.block_lt_of_cell? w _ h0; rwa [Go.Proofs.YtinkbljjpafadaaHChain.add_block] at this, h0, h1, h2⟩
 obtain ⟨N, hNl⟩ : ∃ N, N = l0.length := ⟨_, rfl⟩
 have hmk := zaD.make N o9
 have HR0 := zaa.mk hr0
 have HRD := zaa.mk hrd
 have HNL := zaa.mk hNl
 rw [← hNl] at hlen hc0 hrd ⊢
 clear hr0 hNl
 go_enter Try.func39, Try.ntmps39
 go_wp2_with fail
 have hmsl : (List.replicate N false).length = N := by simp
 rw [show (Array.replicate N (Value.bool false)) = ((List.replicate N false).map Value.bool).toArray by simp]
 refine (zeS w.heap.size N c0 o9 A0 (zaD.lay l0) false (List.replicate N false) hmsl _ w.heap.size N (hrd.below ((Below.refl _ w).alloc (Nat.le_refl _) _)) (Nat.le_refl _) (at_new _ _ rfl)).mono ?_
 rintro e w1 ⟨rfl, hm1, hrow1⟩
 have HM1 := zaa.mk hm1
 have HROW1 := zaa.mk hrow1
 clear hm1 hrow1 hrd hmk hmsl
 go_wp2_with fail
 have hb1 : Below w.heap.size w w1 := ((Below.refl _ w).alloc (Nat.le_refl _) _).trans (HM1.out.below s9 (fun k e => by omega))
 have hl1 : (marked (zaD.lay l0) N false (List.replicate N false)).length = N := by simp [marked, Go.Proofs.YtinkbljjpafadaaHChain.rowAt]
 refine (zeS w.heap.size N c0 o9 A0 (zaD.lay l0) true (marked (zaD.lay l0) N false (List.replicate N false)) hl1 _ w.heap.size N ((HNL.out ▸ HRD.out).below hb1) (Nat.le_refl _) HROW1.out).mono ?_
 rintro e w2 ⟨rfl, hm2, hrow2⟩
 have HB2 := zaa.mk (hb1.trans (hm2.below (hb1.size) (fun k e => by omega)))
 have HROW2 := zaa.mk hrow2
 clear hm2 hrow2 hb1 hl1 HM1 HROW1
 obtain ⟨M, hM⟩ : ∃ M, M = marked (zaD.lay l0) N true (marked (zaD.lay l0) N false (List.replicate N false)) := ⟨_, rfl⟩
 have HMS := zaa.mk (show zaD.ms l0 = M by rw [hM, HNL.out]; rfl)
 have HML := zaa.mk (show M.length = N by rw [hM]; simp [marked, Go.Proofs.YtinkbljjpafadaaHChain.rowAt])
 have HROW := zaa.mk (show w2.heap[w.heap.size]? = some (.cells (M.map Value.bool).toArray 100 (0, 0)) by rw [hM]; exact HROW2.out)
 clear hM HROW2 HRD
 go_wp2_with fail
 go_loopw [2, 17] (fun v2 v17 wr => ∃ k : Nat, k ≤ N ∧ v17 = .int .i64 k ∧ zaa (Kd.R k35 35 wr w.heap.size (fun b => b ≠ w.heap.size) v2 (zaD.sel (l0.take k) (M.take k)) ∧ Below w.heap.size w wr ∧ wr.heap[w.heap.size]? = some (.cells (M.map Value.bool).toArray 100 (0, 0))))
  (fun _ v17 _ => N - (intOf v17).toNat)
 case atStart => exact ⟨0, Nat.zero_le _, rfl, ⟨Kd.R_nil _ _ _ _ _, HB2.out, HROW.out⟩⟩
 case round =>
  obtain ⟨k, hk, rfl, ⟨ho, hb, hrow⟩⟩ := hrel
  have HO := zaa.mk ho
  have HB := zaa.mk hb
  have HRW := zaa.mk hrow
  clear ho hb hrow HB2 HROW
  by_cases hlt : k < N
  ·
   obtain ⟨ad, e, hx0, hx1, hx2⟩ := zcR (Kd.zat HR0.out HB.out) (k : Int) o9 (by have := HNL.out; omega)
   rw [Int.toNat_natCast] at hx0 hx1 hx2
   cases e
   obtain ⟨x, hxE⟩ : ∃ x, x = za3 l0 (k : Int) := ⟨_, rfl⟩
   rw [← hxE] at hx0 hx1 hx2
   have hxg : l0[k]? = some x := by
    rw [hxE]; unfold za3
    rw [Int.toNat_natCast, List.getD_eq_getElem?_getD, List.getElem?_eq_getElem (by rw [← HNL.out]; exact hlt)]; rfl
   have hcm := zad (zal HRW.out (.cells #[.bool x.f0, .string x.f1, .int .i64 x.f2] 35)) k
   obtain ⟨b, hbE⟩ : ∃ b, M[k]? = some b := ⟨_, List.getElem?_eq_getElem (by rw [HML.out]; exact hlt)⟩
   rw [List.getElem?_toArray, List.getElem?_map, hbE, Option.map_some] at hcm
   have hsel : zaD.sel (l0.take (k + 1)) (M.take (k + 1)) = zaD.sel (l0.take k) (M.take k) ++ if b = true then [x] else [] := by
    rw [List.take_add_one, List.take_add_one, hxg, hbE]
    exact zaD.zhM _ _ _ _ (by rw [List.length_take, List.length_take, HML.out, ← HNL.out])
   have hsl : (zaD.sel (l0.take k) (M.take k)).length ≤ k := Nat.le_trans (zaD.zjL _ _) (List.length_take_le _ _)
   have HSEL := zaa.mk hsel
   have HSL := zaa.mk hsl
   have hsz : w.heap.size < wr.heap.size := zai HRW.out
   have HSZ := zaa.mk hsz
   have hu1 := Try.underlying35
   have hu2 := Try.underlying100
   clear hxE hxg hbE hsel hsl hsz
   cases b
   ·
    go_wp2
    go_roundw
    case rel => exact ⟨k + 1, by omega, by go_num, ⟨by rw [HSEL.out]; simpa using Kd.zbt HO.out _, HB.out.alloc (Nat.le_of_lt HSZ.out) _, zal HRW.out _⟩⟩
    case measure => simp [intOf]; omega
   ·
    go_wp2_with ((with_reducible refine zbS (b := .append) (xs := #[.tmp 27, .tmp 29]) rfl ?_); at_builtin; (refine Kd.zdm k35 (w0 := w) (W := wr.alloc (.cells #[.bool x.f0, .string x.f1, .int .i64 x.f2] 35)) w.heap.size rfl (.tmp 27) (.tmp 29) 25 35 (.agg #[(.bool false), (.string ⟨#[]⟩), (.int .i64 0)]) 32 rfl Try.underlying25 zaD.infoL rfl d9 o9 _ (zaD.sel (l0.take k) (M.take k)) x [.bool x.f0, .string x.f1, .int .i64 x.f2] (fun b => b ≠ w.heap.size) (fun _ => False) rfl (by simp [Act.eval]) ?aP (fun _ hk => hk.elim) ?aF ?aO ?aB ?aS ?aL ?_); (case aP => exact zce _ _ _ x); (case aB => exact HB.out.alloc (Nat.le_of_lt HSZ.out) _); (case aF => intro j hj hje; have h1 := HSZ.out; simp at hj; omega); (case aO => exact Kd.zbt HO.out _); (case aS => have h1 := HSZ.out; simp; omega); (case aL => have h1 := HSL.out; omega); intro v1 w4 ho4 hb4 hg4 hat4; have HO4 := zaa.mk ho4; have HB4 := zaa.mk hb4; have HRW4 := zaa.mk (show w4.heap[w.heap.size]? = some (.cells (M.map Value.bool).toArray 100 (0, 0)) from (hg4.block _ (by have h1 := HSZ.out; simp; omega) (fun e => HO.out.1 _ e.symm rfl)).trans (zal HRW.out _)); clear ho4 hb4 hg4 hat4)
    go_roundw
    case rel => exact ⟨k + 1, by omega, by go_num, ⟨by rw [HSEL.out]; exact HO4.out, HB4.out, HRW4.out⟩⟩
    case measure => simp [intOf]; omega
  ·
   have hkN : k = N := by omega
   have HK := zaa.mk hkN
   clear hkN
   go_wp2
   go_ret
   refine ⟨_, rfl, ?_, HB.out⟩
   have := HO.out
   rw [HK.out, List.take_of_length_le (by rw [HNL.out]; exact Nat.le_refl _), List.take_of_length_le (by rw [HML.out]; exact Nat.le_refl _)] at this
   rw [HMS.out]
   exact Kd.za0 this (fun _ _ => trivial)
def zbb.f (l0 : List (List (S35))) : Option (List (S35)) := if l0.length + l0.flatten.length < 4398046511104 then some l0.flatten else none
theorem zbb.infoL : (Try.prog.info? 35).map (fun i => (i.zero, i.size, i.bytes)) = some (some (.agg #[(.bool false), (.string ⟨#[]⟩), (.int .i64 0)]), 3, 32) := by kernel_rfl
theorem zbb.lens (l : List (List (S35))) (k : Nat) : (l.take k).flatten.length ≤ l.flatten.length := by
 conv => rhs; rw [← List.take_append_drop k l, List.flatten_append, List.length_append]
 omega
theorem zbb.snoc {l : List (List (S35))} {k : Nat} {x : List (S35)} (h : l[k]? = some x) : (l.take (k + 1)).flatten = (l.take k).flatten ++ x := by
 rw [List.take_add_one, h]; simp
theorem zbb.grow (n : Nat) (hn : n < 4398046511104) (w : World) : Calls Try.prog 90 #[.slice none 0 0, .int .i64 (n : Int)] w fun e w' => ∃ v0_ : Value, e = .returned (v0_) ∧ Kd.R k35 35 w' w.heap.size (fun _ => True) v0_ [] ∧ Below w.heap.size w w' := by
 by_cases h0 : n = 0
 ·
  subst h0
  go_enter Try.func90, Try.ntmps90
  go_wp2
  go_ret
  exact ⟨_, rfl, Kd.R_nil _ _ _ _ _, Below.refl _ _⟩
 ·
  have hpos : 0 < n := by omega
  have hz : Kd.M k35 w w.heap.size (fun _ => False) z35 (Value.agg #[(.bool false), (.string ⟨#[]⟩), (.int .i64 0)]).cells.toList := zce _ _ _ _
  have HZ := zaa.mk hz
  clear h0 hz
  go_enter Try.func90, Try.ntmps90
  go_wp2_with ((with_reducible refine zbS (b := .append) (xs := #[.tmp 20, .tmp 21]) rfl ?_); at_builtin; (refine Kd.ze7 k35 (w0 := w) w.heap.size rfl (.tmp 20) (.tmp 21) 25 3 35 (.agg #[(.bool false), (.string ⟨#[]⟩), (.int .i64 0)]) 32 rfl Try.underlying25 Try.underlying3 zbb.infoL rfl d9 o9 (.slice none 0 0) [] z35 (n : Int) (fun _ => True) rfl rfl HZ.out (fun _ _ => trivial) (Kd.R_nil _ _ _ _ _) o9 (Below.refl _ _) (Nat.le_refl _) (by simp; omega) ?_); intro v1 w1 ho hb _ hat; obtain ⟨A1, c1, hv1, hle1, hc1⟩ := Kd.zb4 ho; subst hv1; have HO := zaa.mk ho; have HB := zaa.mk hb; have hc1' : 0 ≤ c1 := Nat.zero_le _; clear ho hb hat hc1; simp only [List.nil_append, List.length_replicate, Int.toNat_natCast] at hle1 ⊢)
  go_ret
  exact ⟨_, rfl, by have := Kd.zly (m := 0) HO.out (Nat.zero_le _); simpa using this, HB.out⟩
theorem zbb.calls (A0 : Option Addr) (c0 : Nat) (l0 : List (List (S35))) (r : List (S35)) (w : World) (hr0 : Kd.C (Kd.slice 35 k35) w A0 l0.length l0) (hc0 : l0.length ≤ c0) (h : zbb.f l0 = some r) :
  Calls Try.prog 85 #[.slice A0 l0.length c0] w fun e w' => ∃ v0_ : Value, e = .returned (v0_) ∧ Kd.R k35 35 w' w.heap.size (fun _ => True) v0_ r ∧ Below w.heap.size w w' := by
 unfold zbb.f at h
 have hlen : l0.length + l0.flatten.length < 4398046511104 := by
  by_cases hl : l0.length + l0.flatten.length < 4398046511104
  ·
   exact hl
  ·
   rw [if_neg hl] at h; cases h
 rw [if_pos hlen] at h
 obtain rfl := Option.some.inj h
 clear h
 obtain ⟨N, hNl⟩ : ∃ N, N = l0.length := ⟨_, rfl⟩
 obtain ⟨S, hSl⟩ : ∃ S, S = l0.flatten.length := ⟨_, rfl⟩
 have HNL := zaa.mk hNl
 have HSL := zaa.mk hSl
 rw [← hSl, ← hNl] at hlen
 rw [← hNl] at hr0 hc0 ⊢
 have HR0 := zaa.mk hr0
 clear hr0 hNl hSl
 go_enter Try.func85, Try.ntmps85
 go_wp2_with fail
 go_loopw [3, 5, 11] (fun v3 _ v11 wr => ∃ k : Nat, k ≤ N ∧ v11 = .int .i64 k ∧ v3 = .int .i64 ((l0.take k).flatten.length : Nat) ∧ zaa (wr = w))
  (fun _ _ v11 _ => N - (intOf v11).toNat)
 case atStart => exact ⟨0, Nat.zero_le _, rfl, rfl, ⟨rfl⟩⟩
 case round =>
  obtain ⟨k, hk, rfl, rfl, ⟨hW⟩⟩ := hrel
  subst wr
  have hle := zbb.lens l0 k
  rw [← HSL.out] at hle
  obtain ⟨T, hT⟩ : ∃ T, T = (l0.take k).flatten.length := ⟨_, rfl⟩
  rw [← hT] at hle ⊢
  by_cases hlt : k < N
  ·
   obtain ⟨ad, c, hx0, hx1, hx2, hx3⟩ := Kd.C_get HR0.out [] (k : Int) o9 o9
   rw [Int.toNat_natCast] at hx2 hx3
   obtain ⟨A, m, rfl, hm, hC⟩ := hx2
   have hx4 := hx3 0 _ rfl
   rw [show (Kd.slice 35 k35).sz = 1 from rfl, Nat.mul_one, Nat.add_zero] at hx4
   have hg : l0[k]? = some (l0.getD k []) := by
    rw [List.getD_eq_getElem?_getD, List.getElem?_eq_getElem (by rw [← HNL.out]; exact hlt)]; rfl
   have hsn : (l0.take (k + 1)).flatten.length = T + (l0.getD k []).length := by
    rw [zbb.snoc hg, List.length_append, hT]
   have hle1 := zbb.lens l0 (k + 1)
   rw [hsn, ← HSL.out] at hle1
   have HSN := zaa.mk hsn
   obtain ⟨X, hX⟩ : ∃ X, X = (l0.getD k []).length := ⟨_, rfl⟩
   have HX := zaa.mk hX
   rw [← hX] at hx4 hle1 hm
   clear hx3 hC hg hsn hT hX
   cases hx0
   go_wp2
   go_roundw
   case rel => exact ⟨k + 1, by omega, by go_num, by rw [HSN.out, ← HX.out]; go_num, ⟨by first | trivial | rfl⟩⟩
   case measure => simp [intOf]; omega
  ·
   have hkN : k = N := by omega
   have HK := zaa.mk hkN
   have hTS : T = S := by rw [hT, hkN, HNL.out, List.take_length, HSL.out]
   clear hkN hT
   subst hTS
   go_wp2_with fail
   refine (zbb.grow T o9 w).mono ?_
   rintro e w1 ⟨v, rfl, ho, hb⟩
   have HO := zaa.mk ho
   have HB := zaa.mk hb
   clear ho hb
   go_wp2_with fail
   go_loopw [6, 8, 27] (fun v6 _ v27 wr => ∃ k : Nat, k ≤ N ∧ v27 = .int .i64 k ∧ zaa (Kd.R k35 35 wr w.heap.size (fun _ => True) v6 (l0.take k).flatten ∧ Below w.heap.size w wr))
    (fun _ _ v27 _ => N - (intOf v27).toNat)
   case atStart => exact ⟨0, Nat.zero_le _, rfl, ⟨by simpa using HO.out, HB.out⟩⟩
   case round =>
    obtain ⟨k2, hk2, rfl, ⟨ho, hb⟩⟩ := hrel
    have HO2 := zaa.mk ho
    have HB2 := zaa.mk hb
    clear ho hb
    by_cases hlt2 : k2 < N
    ·
     have hrr := Kd.zat HR0.out HB2.out
     obtain ⟨ad, c, hx0, hx1, hx2, hx3⟩ := Kd.C_get hrr [] (k2 : Int) o9 o9
     rw [Int.toNat_natCast] at hx2 hx3
     obtain ⟨A, m, rfl, hm, hC⟩ := hx2
     have hx4 := hx3 0 _ rfl
     rw [show (Kd.slice 35 k35).sz = 1 from rfl, Nat.mul_one, Nat.add_zero] at hx4
     have hg : l0[k2]? = some (l0.getD k2 []) := by
      rw [List.getD_eq_getElem?_getD, List.getElem?_eq_getElem (by rw [← HNL.out]; exact hlt2)]; rfl
     have hsn := zbb.snoc hg
     have hle1 := zbb.lens l0 (k2 + 1)
     rw [hsn, List.length_append, ← HSL.out] at hle1
     obtain ⟨X, hX⟩ : ∃ X, X = (l0.getD k2 []) := ⟨_, rfl⟩
     rw [← hX] at hx4 hle1 hm hC hsn
     have HC := zaa.mk hC
     have HSN2 := zaa.mk hsn
     have HLE := zaa.mk hle1
     clear hx3 hC hg hsn hX hrr hle1
     cases hx0
     go_wp2_with ((with_reducible refine zbS (b := .append) (xs := #[.tmp 31, .tmp 32]) rfl ?_); at_builtin; (refine Kd.zcz k35 (w0 := w) (W := wr) w.heap.size rfl (.tmp 31) (.tmp 32) 25 35 (.agg #[(.bool false), (.string ⟨#[]⟩), (.int .i64 0)]) 32 rfl Try.underlying25 zbb.infoL rfl d9 o9 _ (l0.take k2).flatten X A X.length m (fun _ => True) (fun _ => False) rfl (by simp [Act.eval]) ?aO ?aR (fun _ _ h => h) (fun _ h => h.elim) ?aF ?aB ?aS ?aL ?_); (case aR => exact HC.out); (case aB => exact HB2.out); (case aF => exact (fun _ _ => trivial)); (case aO => exact HO2.out); (case aS => exact HB2.out.size); (case aL => have h1 := HLE.out; omega); intro v1 w4 ho4 hb4 _ _; have HO4 := zaa.mk ho4; have HB4 := zaa.mk hb4; clear ho4 hb4)
     go_roundw
     case rel => exact ⟨k2 + 1, by omega, by go_num, ⟨by rw [HSN2.out]; exact HO4.out, HB4.out⟩⟩
     case measure => simp [intOf]; omega
    ·
     have hkN2 : k2 = N := by omega
     have HK2 := zaa.mk hkN2
     clear hkN2
     go_wp2
     go_ret
     refine ⟨_, rfl, ?_, HB2.out⟩
     have := HO2.out
     rw [HK2.out, List.take_of_length_le (by rw [HNL.out]; exact Nat.le_refl _)] at this
     exact this
def zb6.f (l0 : List (S35)) (l1 : List (S35)) : Option ((List (S35))) := (zbb.f (([l0, l1] : List (List (S35))))).bind fun t161 => ((zaD.f t161).bind fun t164 => (some t164))
theorem zb6.calls (P0_ : Nat → Prop) (A0 : Option Addr) (c0 : Nat) (l0 : List (S35)) (P1_ : Nat → Prop) (A1 : Option Addr) (c1 : Nat) (l1 : List (S35)) (r : List (S35)) (w : World) (hs0 : Kd.V k35 35 w w.heap.size (fun k_ => P0_ k_) (.slice A0 l0.length c0) l0) (hs1 : Kd.V k35 35 w w.heap.size (fun k_ => P1_ k_) (.slice A1 l1.length c1) l1) (h : zb6.f l0 l1 = some r) :
  Calls Try.prog 77 #[.slice A0 l0.length c0, .slice A1 l1.length c1] w fun e w' => ∃ v0_ : Value, e = .returned (v0_) ∧ Kd.R k35 35 w' w.heap.size (fun k_ => (w.heap.size ≤ k_)) v0_ r ∧ Below w.heap.size w w' := by
 have HO0 := zaa.mk (show Kd.V k35 35 w w.heap.size (fun k_ => ((P0_ k_ ∨ P1_ k_) ∨ w.heap.size ≤ k_)) (.slice A0 l0.length c0) l0 from Kd.zft hs0 (fun k_ hk => .inl (.inl hk)))
 have HO1 := zaa.mk (show Kd.V k35 35 w w.heap.size (fun k_ => ((P0_ k_ ∨ P1_ k_) ∨ w.heap.size ≤ k_)) (.slice A1 l1.length c1) l1 from Kd.zft hs1 (fun k_ hk => .inl (.inr hk)))
 have HB := zaa.mk (Below.refl w.heap.size w)
 have H : ((zbb.f (([l0, l1] : List (List (S35))))).bind fun t161 => ((zaD.f t161).bind fun t164 => (some t164))) = some r := h
 clear h
 obtain ⟨y158, hy158⟩ : ∃ y_ : List (List (S35)), y_ = (([l0, l1] : List (List (S35)))) := ⟨_, rfl⟩
 replace H : ((zbb.f y158).bind fun t161 => ((zaD.f t161).bind fun t164 => (some t164))) = some r := by first | (rw [hy158]; with_reducible exact H) | (have H2_ := (Option.bind_some _ _).symm.trans H; rw [hy158]; with_reducible exact H2_) | (have H2_ := (Option.bind_some _ _).symm.trans H; with_reducible exact H2_) | with_reducible exact H | (rw [hy158]; exact H) | exact H
 have Ny158 := zaa.mk hy158
 clear hy158
 replace H := Option.bind_eq_some_iff.mp H
 obtain ⟨t161, A30, H⟩ := H
 replace H : ((zaD.f t161).bind fun t164 => (some t164)) = some r := H
 have A3 := zaa.mk A30
 clear A30
 replace H := Option.bind_eq_some_iff.mp H
 obtain ⟨t164, A40, H⟩ := H
 replace H : (some t164) = some r := H
 have A4 := zaa.mk A40
 clear A40
 obtain rfl := Option.some.inj H
 go_enter Try.func77, Try.ntmps77
 go_wp2_with (first | ((with_reducible refine zaL (N := 7) rfl ?_); refine Kd.N_lit (Kd.slice 35 k35) _ 25 ?hg (N' := 7) ?hd (xs := ([l0, l1] : List (List (S35)))) (inner := [.slice A0 l0.length c0, .slice A1 l1.length c1]) (ok := (fun k_ => ((P0_ k_ ∨ P1_ k_) ∨ w.heap.size ≤ k_))) (okp := (fun k_ => ((P0_ k_ ∨ P1_ k_) ∨ w.heap.size ≤ k_))) ?hr ?hp (fun _ hk => hk) ((show ∀ k_, w.heap.size ≤ k_ → (fun k_ => ((P0_ k_ ∨ P1_ k_) ∨ w.heap.size ≤ k_)) k_ from fun k_ hk => (.inr (Nat.le_trans (zaO (bl HB.out)) hk))) _ (Nat.le_refl _)) (Below.refl _ _) (Nat.le_refl _) s9 ?_; (case hd => rfl); (case hg => rfl); (case hr => first | (go_simp; done) | (go_simp; rfl)); (case hp => exact (Reps.one (show Kd.FK (Kd.slice 35 k35) _ _ l0 [.slice A0 l0.length c0] from (Kd.zeD (Kd.zhx (Kd.zft (ok' := (fun k_ => ((P0_ k_ ∨ P1_ k_) ∨ w.heap.size ≤ k_))) (HO0.out) (fun k_ hk => hk))).2.1 (Kd.V_F (Kd.zft (ok' := (fun k_ => ((P0_ k_ ∨ P1_ k_) ∨ w.heap.size ≤ k_))) (HO0.out) (fun k_ hk => hk))))) (Reps.one (show Kd.FK (Kd.slice 35 k35) _ _ l1 [.slice A1 l1.length c1] from (Kd.zeD (Kd.zhx (Kd.zft (ok' := (fun k_ => ((P0_ k_ ∨ P1_ k_) ∨ w.heap.size ≤ k_))) (HO1.out) (fun k_ hk => hk))).2.1 (Kd.V_F (Kd.zft (ok' := (fun k_ => ((P0_ k_ ∨ P1_ k_) ∨ w.heap.size ≤ k_))) (HO1.out) (fun k_ hk => hk))))) (Reps.none _ _)))); intro v159 w5 ho6 hb hg_ hnew_; clear hg_ hnew_; (first | rw [← Ny158.out] at ho6 | (simp only [Int.reduceToNat] at ho6; rw [← Ny158.out] at ho6)); have HO160 := zaa.mk (Kd.zgN ho6 (zaO (bl HB.out))); replace HO0 := zaa.mk (Kd.zdn (by (with_reducible repeat (first | apply Kd.zd0 | apply Kd.zd4 | apply Kd.zfh)); exact HO0.out) (Kd.zkM ho6) hb); replace HO1 := zaa.mk (Kd.zdn (by (with_reducible repeat (first | apply Kd.zd0 | apply Kd.zd4 | apply Kd.zfh)); exact HO1.out) (Kd.zkM ho6) hb); replace HB := zaa.mk (zan (bl HB.out) hb); clear hb ho6; obtain ⟨Ao7, co7, eo7⟩ := Kd.zgZ HO160.out; subst eo7) | ((with_reducible refine za4 (f := 85) rfl ?_); refine zbX (some 8) rfl rfl Try.func85 k9 rfl #[.slice Ao7 y158.length co7] rfl m9 ?_; (with_reducible refine (zbb.calls _ _ y158 t161 _ ?side1 ?side2 A3.out).mono ?_); (case side1 => repeat (first | exact (Kd.zdO HO160.out).2.2 | (with_reducible refine Kd.zbr ?_ _) | (with_reducible refine Kd.zbx ?_ _) | (with_reducible refine Kd.zbu ?_))); (case side2 => exact (Kd.zdO HO160.out).2.1); rintro e w8 ⟨v162, rfl, ho0, hb⟩; refine ⟨_, rfl, ?_⟩; have HO163 := zaa.mk (Kd.zbi (Kd.zgi (M := fun k_ => (w.heap.size ≤ k_)) ho0 (zaO (bl HB.out)) (fun k_ h_ => h_)) (zaO (bl HB.out))); replace HO0 := zaa.mk (Kd.zdn (by (with_reducible repeat (first | apply Kd.zd0 | apply Kd.zd4 | apply Kd.zfh)); exact HO0.out) (Kd.zci ho0) hb); replace HO1 := zaa.mk (Kd.zdn (by (with_reducible repeat (first | apply Kd.zd0 | apply Kd.zd4 | apply Kd.zfh)); exact HO1.out) (Kd.zci ho0) hb); replace HO160 := zaa.mk (Kd.zel (by (with_reducible repeat (first | apply Kd.zeE | apply Kd.zeR | apply Kd.zgA)); exact HO160.out) (Kd.zci ho0) hb); replace HB := zaa.mk (zan (bl HB.out) hb); (try clear hb); (try clear hb2); (try clear hk); (try clear hi); (try clear ho0); obtain ⟨Ao9, co9, eo9⟩ := Kd.zbj HO163.out; subst eo9) | ((with_reducible refine za4 (f := 39) rfl ?_); refine zbX (some 9) rfl rfl Try.func39 k9 rfl #[.slice Ao9 t161.length co9] rfl m9 ?_; (with_reducible refine (zaD.calls _ _ t161 t164 _ ?side1 ?side2 A4.out).mono ?_); (case side1 => repeat (first | exact (Kd.zbn HO163.out).2.2 | (with_reducible refine Kd.zbr ?_ _) | (with_reducible refine Kd.zbx ?_ _) | (with_reducible refine Kd.zbu ?_))); (case side2 => exact (Kd.zbn HO163.out).2.1); rintro e w10 ⟨v165, rfl, ho0, hb⟩; refine ⟨_, rfl, ?_⟩; have HO166 := zaa.mk (Kd.zbi (Kd.zeX (Kd.zgi (M := fun k_ => (w.heap.size ≤ k_)) ho0 (zaO (bl HB.out)) (fun k_ h_ => h_)) (Kd.R_lt (rk HO163.out))) (zaO (bl HB.out))); replace HO0 := zaa.mk (Kd.zdn (by (with_reducible repeat (first | apply Kd.zd0 | apply Kd.zd4 | apply Kd.zfh)); exact HO0.out) (Kd.zci ho0) hb); replace HO1 := zaa.mk (Kd.zdn (by (with_reducible repeat (first | apply Kd.zd0 | apply Kd.zd4 | apply Kd.zfh)); exact HO1.out) (Kd.zci ho0) hb); replace HO160 := zaa.mk (Kd.zel (by (with_reducible repeat (first | apply Kd.zeE | apply Kd.zeR | apply Kd.zgA)); exact HO160.out) (Kd.zci ho0) hb); replace HO163 := zaa.mk (Kd.zcY (rk HO163.out) (Kd.zci ho0) hb); replace HB := zaa.mk (zan (bl HB.out) hb); (try clear hb); (try clear hb2); (try clear hk); (try clear hi); (try clear ho0)))
 go_ret
 exact ⟨_, by first | rfl | (simp [zaz, zaA] <;> rfl) | (simp [*, zaz, zaA] <;> rfl), by (with_reducible repeat (first | apply Kd.zbt | apply Kd.zbA | apply Kd.zbN)); exact Kd.za0 HO166.out (fun _ hk => hk.1.1), bl HB.out⟩
def zcu.f (l0 : List (S35)) (a1_0 : Bool) (a1_1 : ByteArray) (a1_2 : Int) : Option ((List (S35))) := (zb6.f l0 (([(⟨a1_0, a1_1, a1_2⟩ : S35)] : List (S35)))).bind fun t171 => (some t171)
theorem zcu.calls (A0 : Option Addr) (c0 : Nat) (l0 : List (S35)) (a1_0 : Bool) (a1_1 : ByteArray) (a1_2 : Int) (r : List (S35)) (w : World) (hr0 : Kd.C k35 w A0 l0.length l0) (hc0 : l0.length ≤ c0) (h : zcu.f l0 a1_0 a1_1 a1_2 = some r) :
  Calls Try.prog 67 #[.slice A0 l0.length c0, .agg #[.bool a1_0, .string a1_1, .int .i64 a1_2]] w fun e w' => ∃ v0_ : Value, e = .returned (v0_) ∧ Kd.R k35 35 w' w.heap.size (fun _ => True) v0_ r ∧ Below w.heap.size w w' := by
 have hu35 := Try.underlying35
 have HR0 := zaa.mk hr0
 have HC0 := zaa.mk hc0
 clear hr0 hc0
 have HB := zaa.mk (Below.refl w.heap.size w)
 have H : ((zb6.f l0 (([(⟨a1_0, a1_1, a1_2⟩ : S35)] : List (S35)))).bind fun t171 => (some t171)) = some r := h
 clear h
 obtain ⟨y168, hy168⟩ : ∃ y_ : List (S35), y_ = (([(⟨a1_0, a1_1, a1_2⟩ : S35)] : List (S35))) := ⟨_, rfl⟩
 replace H : ((zb6.f l0 y168).bind fun t171 => (some t171)) = some r := by first | (rw [hy168]; with_reducible exact H) | (have H2_ := (Option.bind_some _ _).symm.trans H; rw [hy168]; with_reducible exact H2_) | (have H2_ := (Option.bind_some _ _).symm.trans H; with_reducible exact H2_) | with_reducible exact H | (rw [hy168]; exact H) | exact H
 have Ny168 := zaa.mk hy168
 clear hy168
 replace H := Option.bind_eq_some_iff.mp H
 obtain ⟨t171, A30, H⟩ := H
 replace H : (some t171) = some r := H
 have A3 := zaa.mk A30
 clear A30
 obtain rfl := Option.some.inj H
 go_enter Try.func67, Try.ntmps67
 go_wp2_with (first | ((with_reducible refine zaL (N := 3) rfl ?_); refine zbq (N := 3) (cs := #[.bool a1_0, .string a1_1, .int .i64 a1_2]) (t := 35) ?_; intro gb167 hg w4 hbox hb; have BK167 := zaa.mk (hbox); have GW167 := zaa.mk (gw hg (bl HB.out) : w.heap.size ≤ gb167); have GE167 := GW167; replace HB := zaa.mk (zan (bl HB.out) hb); clear hb hbox hg; have hcz5_0 : w4.cell? ⟨gb167, 0, none⟩ = some (.bool a1_0) := (zac BK167.out 0).trans rfl; have hcz5_1 : w4.cell? ⟨gb167, 1, none⟩ = some (.string a1_1) := (zac BK167.out 1).trans rfl; have hcz5_2 : w4.cell? ⟨gb167, 2, none⟩ = some (.int .i64 a1_2) := (zac BK167.out 2).trans rfl; have hfz5_0 := zab BK167.out 0; have hfz5_1 := zab BK167.out 1; have hfz5_2 := zab BK167.out 2) | ((with_reducible refine zaL (N := 7) rfl ?_); refine Kd.R_lit k35 _ 35 ?hg (N := 7) ?hd (xs := ([(⟨a1_0, a1_1, a1_2⟩ : S35)] : List (S35))) (inner := [.bool a1_0, .string a1_1, .int .i64 a1_2]) (ok := fun _ => True) (okp := fun _ => True) ?hr ?hp (fun _ hk => hk) trivial (Below.refl _ _) (Nat.le_refl _) s9 ?_; (case hd => rfl); (case hg => rfl); (case hr => first | (go_simp; done) | (go_simp; rfl)); (case hp => exact (Reps.c3 (show Kd.M k35 _ _ _ (⟨a1_0, a1_1, a1_2⟩ : S35) [.bool a1_0, .string a1_1, .int .i64 a1_2] from (zce _ _ _ (⟨a1_0, a1_1, a1_2⟩ : S35) )) (Reps.none _ _))); intro v169 w6 ho7 hb hg_ hnew_; clear hg_ hnew_; (first | rw [← Ny168.out] at ho7 | (simp only [Int.reduceToNat] at ho7; rw [← Ny168.out] at ho7)); have HO170 := zaa.mk (Kd.zbi (Kd.zeC ho7 (g := gb167) (o := .cells #[.bool a1_0, .string a1_1, .int .i64 a1_2] 35 (0, 0)) (bk BK167.out)) (zaO (bl HB.out))); replace BK167 := zaa.mk (zaq (bk BK167.out) hb); replace HB := zaa.mk (zan (bl HB.out) hb); clear hb ho7; obtain ⟨Ao8, co8, eo8⟩ := Kd.zbj HO170.out; subst eo8) | ((with_reducible refine za4 (f := 77) rfl ?_); refine zbX (some 8) rfl rfl Try.func77 k9 rfl #[.slice A0 l0.length c0, .slice Ao8 y168.length co8] rfl m9 ?_; (with_reducible refine (zb6.calls (fun k_ => k_ < w.heap.size) _ _ l0 (fun k_ => some k_ = (.slice Ao8 y168.length co8 : Value).ownBlock) _ _ y168 t171 _ ?side1 ?side2 A3.out).mono ?_); (case side1 => exact Kd.V_mk HC0.out (Kd.zfU (Kd.C_F zkc HR0.out) (bl HB.out))); (case side2 => exact Kd.R_V (Kd.zeP rfl (HO170.out))); rintro e w9 ⟨v172, rfl, ho0, hb⟩; refine ⟨_, rfl, ?_⟩; have HO173 := zaa.mk (Kd.zbi (Kd.zeC (Kd.zeX (Kd.za0 (ok' := fun k_ => True) ho0 (fun _ hk_ => trivial)) (Kd.R_lt (rk HO170.out))) (g := gb167) (o := .cells #[.bool a1_0, .string a1_1, .int .i64 a1_2] 35 (0, 0)) (bk BK167.out)) (zaO (bl HB.out))); replace HO170 := zaa.mk (Kd.zcY (rk HO170.out) (Kd.zci ho0) hb); replace BK167 := zaa.mk (zaq (bk BK167.out) hb); replace HB := zaa.mk (zan (bl HB.out) hb); (try clear hb); (try clear hb2); (try clear hk); (try clear hi); (try clear ho0)))
 go_ret
 exact ⟨_, by first | rfl | (simp [zaz, zaA] <;> rfl) | (simp [*, zaz, zaA] <;> rfl), by (with_reducible repeat (first | apply Kd.zbt | apply Kd.zbA | apply Kd.zbN)); exact Kd.za0 HO173.out (fun _ hk => trivial), bl HB.out⟩
def zaM.f (l0_0 : List (S64)) (a0_1 : Bool) (a0_2 : Int) (a1_0 : Int) (a1_1 : Int) (a1_2 : Int) (a1_3 : ByteArray) (l1_4 : List (S35)) (a2 : Bool) (a3 : ByteArray) : Option (Int × Int × Int × ByteArray × (List (S35))) := if a0_1 = true then ((zcu.f l1_4 a2 a3 a0_2).bind fun t178 => (some (a1_0, a1_1, a1_2, a1_3, t178))) else ((zaZ.f l1_4).bind fun t181 => ((some (([(⟨a2, a3, a0_2⟩ : S35)] : List (S35)) : List (S35))).bind fun y184 => (if t181.length + y184.length < 4398046511104 then (some (a1_0, a1_1, a1_2, a1_3, (t181 ++ y184))) else (none))))
def zaM.T4 : Bool × List (List Nat × List Nat) := (true, [([], []), ([0], [0]), ([1], [1]), ([], []), ([3], [3]), ([2, 4, 2], [2, 4]), ([0, 1, 2, 3, 4, 5], []), ([6, 5, 5, 0, 1, 2, 3, 4, 5], [5, 6])])
def zaM.B4 : List Nat := [0, 1, 3, 0, 8, 31, 63, 127]
theorem zaM.tab4 : rtab .any (opsOf Try.f53 4) = zaM.T4 := by kernel_rfl
theorem zaM.bits4 : zeK zaM.T4.2 zaM.B4 = true := by kernel_rfl
theorem zaM.calls (A0_0 : Option Addr) (c0_0 : Nat) (l0_0 : List (S64)) (a0_1 : Bool) (a0_2 : Int) (a1_0 : Int) (a1_1 : Int) (a1_2 : Int) (a1_3 : ByteArray) (A1_4 : Option Addr) (c1_4 : Nat) (l1_4 : List (S35)) (a2 : Bool) (a3 : ByteArray) (r1 : Int) (r2 : Int) (r3 : Int) (r4 : ByteArray) (r5 : List (S35)) (w : World) (hr0_0 : Kd.C k64 w A0_0 l0_0.length l0_0) (hc0_0 : l0_0.length ≤ c0_0) (hr1_4 : Kd.C k35 w A1_4 l1_4.length l1_4) (hc1_4 : l1_4.length ≤ c1_4) (h : zaM.f l0_0 a0_1 a0_2 a1_0 a1_1 a1_2 a1_3 l1_4 a2 a3 = some (r1, r2, r3, r4, r5)) :
  Calls Try.prog 53 #[.agg #[.slice A0_0 l0_0.length c0_0, .bool a0_1, .int .i64 a0_2], .agg #[.int .i64 a1_0, .int .i64 a1_1, .int .u64 a1_2, .string a1_3, .slice A1_4 l1_4.length c1_4], .bool a2, .string a3] w fun e w' => ∃ v4_ : Value, e = .returned (.agg #[.int .i64 r1, .int .i64 r2, .int .u64 r3, .string r4, v4_]) ∧ Kd.R k35 35 w' w.heap.size (fun _ => True) v4_ r5 ∧ Below w.heap.size w w' := by
 have hu73 := Try.underlying73
 have hu27 := Try.underlying27
 have hu35 := Try.underlying35
 have HR0_0 := zaa.mk hr0_0
 have HC0_0 := zaa.mk hc0_0
 clear hr0_0 hc0_0
 have HR1_4 := zaa.mk hr1_4
 have HC1_4 := zaa.mk hc1_4
 clear hr1_4 hc1_4
 have HB := zaa.mk (Below.refl w.heap.size w)
 have H : (if a0_1 = true then ((zcu.f l1_4 a2 a3 a0_2).bind fun t178 => (some (a1_0, a1_1, a1_2, a1_3, t178))) else ((zaZ.f l1_4).bind fun t181 => ((some (([(⟨a2, a3, a0_2⟩ : S35)] : List (S35)) : List (S35))).bind fun y184 => (if t181.length + y184.length < 4398046511104 then (some (a1_0, a1_1, a1_2, a1_3, (t181 ++ y184))) else (none))))) = some (r1, r2, r3, r4, r5) := h
 clear h
 by_cases c5 : a0_1 = true
 ·
  subst c5
  have H1 : ((zcu.f l1_4 a2 a3 a0_2).bind fun t178 => (some (a1_0, a1_1, a1_2, a1_3, t178))) = some (r1, r2, r3, r4, r5) := by rw [if_pos rfl] at H; exact H
  clear H
  have H := H1
  clear H1
  replace H := Option.bind_eq_some_iff.mp H
  obtain ⟨t178, A60, H⟩ := H
  replace H : (some (a1_0, a1_1, a1_2, a1_3, t178)) = some (r1, r2, r3, r4, r5) := H
  have A6 := zaa.mk A60
  clear A60
  simp only [Option.some.injEq, Prod.mk.injEq] at H
  obtain ⟨rfl, rfl, rfl, rfl, rfl⟩ := H
  go_enter Try.func53, Try.ntmps53
  go_wp2_with (first | ((with_reducible refine zaL (N := 4) rfl ?_); refine zbq (N := 4) (cs := #[.slice A0_0 l0_0.length c0_0, .bool true, .int .i64 a0_2]) (t := 73) ?_; intro gb174 hg w7 hbox hb; have BK174 := zaa.mk (hbox); have GW174 := zaa.mk (gw hg (bl HB.out) : w.heap.size ≤ gb174); have GE174 := GW174; replace HB := zaa.mk (zan (bl HB.out) hb); clear hb hbox hg) | ((with_reducible refine zaL (N := 5) rfl ?_); refine zbq (N := 5) (cs := #[.int .i64 a1_0, .int .i64 a1_1, .int .u64 a1_2, .string a1_3, .slice A1_4 l1_4.length c1_4]) (t := 27) ?_; intro gb175 hg w8 hbox hb; have BK175 := zaa.mk (hbox); have GW175 := zaa.mk (gw hg (bl HB.out) : w.heap.size ≤ gb175); have GE175 := GW175; have NB174_175 := zaa.mk (nl hg BK174.out : gb174 ≠ gb175); have NB175_174 := zaa.mk (ng hg BK174.out : gb175 ≠ gb174); replace BK174 := zaa.mk (zaq (bk BK174.out) hb); replace HB := zaa.mk (zan (bl HB.out) hb); clear hb hbox hg) | ((with_reducible refine zaL (N := 8) rfl ?_); refine zbq (N := 8) (cs := #[.int .i64 0, .int .i64 0, .int .u64 0, .string (⟨#[]⟩ : ByteArray), .slice none 0 0]) (t := 27) ?_; intro gb176 hg w9 hbox hb; have BK176 := zaa.mk (hbox); have GW176 := zaa.mk (gw hg (bl HB.out) : w.heap.size ≤ gb176); have GE176 := GW176; have NB174_176 := zaa.mk (nl hg BK174.out : gb174 ≠ gb176); have NB176_174 := zaa.mk (ng hg BK174.out : gb176 ≠ gb174); have NB175_176 := zaa.mk (nl hg BK175.out : gb175 ≠ gb176); have NB176_175 := zaa.mk (ng hg BK175.out : gb176 ≠ gb175); replace BK174 := zaa.mk (zaq (bk BK174.out) hb); replace BK175 := zaa.mk (zaq (bk BK175.out) hb); replace HB := zaa.mk (zan (bl HB.out) hb); clear hb hbox hg; have hnb10 := NB174_175.out; have hnc10 := NB175_174.out; have hnb11 := NB174_176.out; have hnc11 := NB176_174.out; have hcz12_0 : w9.cell? ⟨gb174, 0, none⟩ = some (.slice A0_0 l0_0.length c0_0) := (zac BK174.out 0).trans rfl; have hcz12_1 : w9.cell? ⟨gb174, 1, none⟩ = some (.bool true) := (zac BK174.out 1).trans rfl; have hcz12_2 : w9.cell? ⟨gb174, 2, none⟩ = some (.int .i64 a0_2) := (zac BK174.out 2).trans rfl; have hfz12_0 := zab BK174.out 0; have hfz12_1 := zab BK174.out 1; have hfz12_2 := zab BK174.out 2) | ((with_reducible refine zaL (N := 9) rfl ?_); refine zbq (N := 9) (cs := #[.bool false, .string (⟨#[]⟩ : ByteArray), .int .i64 0]) (t := 35) ?_; intro gb177 hg w13 hbox hb; have BK177 := zaa.mk (hbox); have GW177 := zaa.mk (gw hg (bl HB.out) : w.heap.size ≤ gb177); have GE177 := GW177; have NB174_177 := zaa.mk (nl hg BK174.out : gb174 ≠ gb177); have NB177_174 := zaa.mk (ng hg BK174.out : gb177 ≠ gb174); have NB175_177 := zaa.mk (nl hg BK175.out : gb175 ≠ gb177); have NB177_175 := zaa.mk (ng hg BK175.out : gb177 ≠ gb175); have NB176_177 := zaa.mk (nl hg BK176.out : gb176 ≠ gb177); have NB177_176 := zaa.mk (ng hg BK176.out : gb177 ≠ gb176); replace BK174 := zaa.mk (zaq (bk BK174.out) hb); replace BK175 := zaa.mk (zaq (bk BK175.out) hb); replace BK176 := zaa.mk (zaq (bk BK176.out) hb); replace HB := zaa.mk (zan (bl HB.out) hb); clear hb hbox hg; have hnb14 := NB177_174.out; have hnc14 := NB174_177.out; have hnb15 := NB177_175.out; have hnc15 := NB175_177.out; have hnb16 := NB177_176.out; have hnc16 := NB176_177.out; have hcz17_0 : w13.cell? ⟨gb177, 0, none⟩ = some (.bool false) := (zac BK177.out 0).trans rfl; have hcz17_1 : w13.cell? ⟨gb177, 1, none⟩ = some (.string (⟨#[]⟩ : ByteArray)) := (zac BK177.out 1).trans rfl; have hcz17_2 : w13.cell? ⟨gb177, 2, none⟩ = some (.int .i64 0) := (zac BK177.out 2).trans rfl; have hfz17_0 := zab BK177.out 0; have hfz17_1 := zab BK177.out 1; have hfz17_2 := zab BK177.out 2; have hcz18_0 : w13.cell? ⟨gb174, 0, none⟩ = some (.slice A0_0 l0_0.length c0_0) := (zac BK174.out 0).trans rfl; have hcz18_1 : w13.cell? ⟨gb174, 1, none⟩ = some (.bool true) := (zac BK174.out 1).trans rfl; have hcz18_2 : w13.cell? ⟨gb174, 2, none⟩ = some (.int .i64 a0_2) := (zac BK174.out 2).trans rfl; have hfz18_0 := zab BK174.out 0; have hfz18_1 := zab BK174.out 1; have hfz18_2 := zab BK174.out 2; have hnb19 := NB175_176.out; have hnc19 := NB176_175.out; have hcz20_0 : w13.cell? ⟨gb175, 0, none⟩ = some (.int .i64 a1_0) := (zac BK175.out 0).trans rfl; have hcz20_1 : w13.cell? ⟨gb175, 1, none⟩ = some (.int .i64 a1_1) := (zac BK175.out 1).trans rfl; have hcz20_2 : w13.cell? ⟨gb175, 2, none⟩ = some (.int .u64 a1_2) := (zac BK175.out 2).trans rfl; have hcz20_3 : w13.cell? ⟨gb175, 3, none⟩ = some (.string a1_3) := (zac BK175.out 3).trans rfl; have hcz20_4 : w13.cell? ⟨gb175, 4, none⟩ = some (.slice A1_4 l1_4.length c1_4) := (zac BK175.out 4).trans rfl; have hfz20_0 := zab BK175.out 0; have hfz20_1 := zab BK175.out 1; have hfz20_2 := zab BK175.out 2; have hfz20_3 := zab BK175.out 3; have hfz20_4 := zab BK175.out 4) | ((with_reducible refine za4 (f := 67) rfl ?_); refine zbX (some 20) rfl rfl Try.func67 k9 rfl #[.slice A1_4 l1_4.length c1_4, .agg #[.bool a2, .string a3, .int .i64 a0_2]] rfl m9 ?_; (with_reducible refine (zcu.calls _ _ l1_4 a2 a3 a0_2 t178 _ ?side1 ?side2 A6.out).mono ?_); (case side1 => exact Kd.zat HR1_4.out (bl HB.out)); (case side2 => exact HC1_4.out); rintro e w21 ⟨v179, rfl, ho0, hb⟩; refine ⟨_, rfl, ?_⟩; have HO180 := zaa.mk (Kd.zbi (Kd.zeC ho0 (g := gb177) (o := .cells #[.bool a2, .string a3, .int .i64 a0_2] 35 (0, 0)) (bp BK177.out)) (zaO (bl HB.out))); replace BK174 := zaa.mk (zaq (g := gb174) (o := .cells #[.slice A0_0 l0_0.length c0_0, .bool true, .int .i64 a0_2] 73 (0, 0)) (bp BK174.out) hb); replace BK175 := zaa.mk (zaq (g := gb175) (o := .cells #[.int .i64 a1_0, .int .i64 a1_1, .int .u64 a1_2, .string a1_3, .slice A1_4 l1_4.length c1_4] 27 (0, 0)) (bp BK175.out) hb); replace BK176 := zaa.mk (zaq (g := gb176) (o := .cells #[.int .i64 0, .int .i64 0, .int .u64 0, .string (⟨#[]⟩ : ByteArray), .slice none 0 0] 27 (0, 0)) (bp BK176.out) hb); replace BK177 := zaa.mk (zaq (g := gb177) (o := .cells #[.bool a2, .string a3, .int .i64 a0_2] 35 (0, 0)) (bp BK177.out) hb); replace HB := zaa.mk (zan (bl HB.out) hb); (try clear hb); (try clear hb2); (try clear hk); (try clear hi); (try clear ho0); obtain ⟨Ao22, co22, eo22⟩ := Kd.zbj HO180.out; subst eo22; have hcz23_0 : w21.cell? ⟨gb175, 0, none⟩ = some (.int .i64 a1_0) := (zac BK175.out 0).trans rfl; have hcz23_1 : w21.cell? ⟨gb175, 1, none⟩ = some (.int .i64 a1_1) := (zac BK175.out 1).trans rfl; have hcz23_2 : w21.cell? ⟨gb175, 2, none⟩ = some (.int .u64 a1_2) := (zac BK175.out 2).trans rfl; have hcz23_3 : w21.cell? ⟨gb175, 3, none⟩ = some (.string a1_3) := (zac BK175.out 3).trans rfl; have hcz23_4 : w21.cell? ⟨gb175, 4, none⟩ = some (.slice A1_4 l1_4.length c1_4) := (zac BK175.out 4).trans rfl; have hfz23_0 := zab BK175.out 0; have hfz23_1 := zab BK175.out 1; have hfz23_2 := zab BK175.out 2; have hfz23_3 := zab BK175.out 3; have hfz23_4 := zab BK175.out 4; have hcz24_0 : w21.cell? ⟨gb176, 0, none⟩ = some (.int .i64 0) := (zac BK176.out 0).trans rfl; have hcz24_1 : w21.cell? ⟨gb176, 1, none⟩ = some (.int .i64 0) := (zac BK176.out 1).trans rfl; have hcz24_2 : w21.cell? ⟨gb176, 2, none⟩ = some (.int .u64 0) := (zac BK176.out 2).trans rfl; have hcz24_3 : w21.cell? ⟨gb176, 3, none⟩ = some (.string (⟨#[]⟩ : ByteArray)) := (zac BK176.out 3).trans rfl; have hcz24_4 : w21.cell? ⟨gb176, 4, none⟩ = some (.slice none 0 0) := (zac BK176.out 4).trans rfl; have hfz24_0 := zab BK176.out 0; have hfz24_1 := zab BK176.out 1; have hfz24_2 := zab BK176.out 2; have hfz24_3 := zab BK176.out 3; have hfz24_4 := zab BK176.out 4))
  refine bodyPost_ret (results_cell_row rfl _ _ gb176 27 #[.int .i64 a1_0, .int .i64 a1_1, .int .u64 a1_2, .string a1_3, .slice Ao22 t178.length co22] (0, 0) _ rfl (bp BK176.out) Try.underlying27 rfl k9) rfl ?_
  exact ⟨_, by first | rfl | (simp [zaz, zaA] <;> rfl) | (simp [*, zaz, zaA] <;> rfl), by (with_reducible repeat (first | apply Kd.zbt | apply Kd.zbA | apply Kd.zbN)); exact Kd.za0 (Kd.R_far (p := ⟨gb176, 4, none⟩) (Kd.R_far (p := ⟨gb176, 3, none⟩) (Kd.R_far (p := ⟨gb176, 2, none⟩) (Kd.R_far (p := ⟨gb176, 1, none⟩) (Kd.R_far (p := ⟨gb176, 0, none⟩) (Kd.R_far (p := ⟨gb175, 4, none⟩) (Kd.zbJ (Kd.zbJ HO180.out BK175.out d9) BK176.out d9) (fun _ hk => hk.1.2) (.slice Ao22 t178.length co22)) (fun _ hk => hk.2) (.int .i64 a1_0)) (fun _ hk => hk.2) (.int .i64 a1_1)) (fun _ hk => hk.2) (.int .u64 a1_2)) (fun _ hk => hk.2) (.string a1_3)) (fun _ hk => hk.2) (.slice Ao22 t178.length co22)) (fun _ hk => trivial), bl HB.out⟩
 ·
  replace c5 := Bool.eq_false_iff.mpr c5
  subst c5
  have H1 : ((zaZ.f l1_4).bind fun t181 => ((some (([(⟨a2, a3, a0_2⟩ : S35)] : List (S35)) : List (S35))).bind fun y184 => (if t181.length + y184.length < 4398046511104 then (some (a1_0, a1_1, a1_2, a1_3, (t181 ++ y184))) else (none)))) = some (r1, r2, r3, r4, r5) := by rw [if_neg (show ¬ (false = true) by decide)] at H; exact H
  clear H
  have H := H1
  clear H1
  replace H := Option.bind_eq_some_iff.mp H
  obtain ⟨t181, A250, H⟩ := H
  replace H : ((some (([(⟨a2, a3, a0_2⟩ : S35)] : List (S35)) : List (S35))).bind fun y184 => (if t181.length + y184.length < 4398046511104 then (some (a1_0, a1_1, a1_2, a1_3, (t181 ++ y184))) else (none))) = some (r1, r2, r3, r4, r5) := H
  have A25 := zaa.mk A250
  clear A250
  obtain ⟨y184, hy184⟩ : ∃ y_ : List (S35), y_ = (([(⟨a2, a3, a0_2⟩ : S35)] : List (S35))) := ⟨_, rfl⟩
  replace H : (if t181.length + y184.length < 4398046511104 then (some (a1_0, a1_1, a1_2, a1_3, (t181 ++ y184))) else (none)) = some (r1, r2, r3, r4, r5) := by first | (rw [hy184]; with_reducible exact H) | (have H2_ := (Option.bind_some _ _).symm.trans H; rw [hy184]; with_reducible exact H2_) | (have H2_ := (Option.bind_some _ _).symm.trans H; with_reducible exact H2_) | with_reducible exact H | (rw [hy184]; exact H) | exact H
  have Ny184 := zaa.mk hy184
  clear hy184
  by_cases c26 : t181.length + y184.length < 4398046511104
  ·
   rw [if_pos c26] at H
   have LMc26 := zaa.mk c26
   clear c26
   obtain ⟨y187, hy187⟩ : ∃ y_ : List (S35), y_ = (t181 ++ y184) := ⟨_, rfl⟩
   replace H : (some (a1_0, a1_1, a1_2, a1_3, y187)) = some (r1, r2, r3, r4, r5) := by first | (rw [hy187]; with_reducible exact H) | (have H2_ := (Option.bind_some _ _).symm.trans H; rw [hy187]; with_reducible exact H2_) | (have H2_ := (Option.bind_some _ _).symm.trans H; with_reducible exact H2_) | with_reducible exact H | (rw [hy187]; exact H) | exact H
   have Ny187 := zaa.mk hy187
   clear hy187
   simp only [Option.some.injEq, Prod.mk.injEq] at H
   obtain ⟨rfl, rfl, rfl, rfl, rfl⟩ := H
   go_enter Try.func53, Try.ntmps53
   try go_wp2_with (first | ((with_reducible refine zaL (N := 4) rfl ?_); refine zbq (N := 4) (cs := #[.slice A0_0 l0_0.length c0_0, .bool false, .int .i64 a0_2]) (t := 73) ?_; intro gb174 hg w27 hbox hb; have BK174 := zaa.mk (hbox); have GW174 := zaa.mk (gw hg (bl HB.out) : w.heap.size ≤ gb174); have GE174 := GW174; replace HB := zaa.mk (zan (bl HB.out) hb); clear hb hbox hg) | ((with_reducible refine zaL (N := 5) rfl ?_); refine zbq (N := 5) (cs := #[.int .i64 a1_0, .int .i64 a1_1, .int .u64 a1_2, .string a1_3, .slice A1_4 l1_4.length c1_4]) (t := 27) ?_; intro gb175 hg w28 hbox hb; have BK175 := zaa.mk (hbox); have GW175 := zaa.mk (gw hg (bl HB.out) : w.heap.size ≤ gb175); have GE175 := GW175; have NB174_175 := zaa.mk (nl hg BK174.out : gb174 ≠ gb175); have NB175_174 := zaa.mk (ng hg BK174.out : gb175 ≠ gb174); replace BK174 := zaa.mk (zaq (bk BK174.out) hb); replace HB := zaa.mk (zan (bl HB.out) hb); clear hb hbox hg) | ((with_reducible refine zaL (N := 8) rfl ?_); refine zbq (N := 8) (cs := #[.int .i64 0, .int .i64 0, .int .u64 0, .string (⟨#[]⟩ : ByteArray), .slice none 0 0]) (t := 27) ?_; intro gb176 hg w29 hbox hb; have BK176 := zaa.mk (hbox); have GW176 := zaa.mk (gw hg (bl HB.out) : w.heap.size ≤ gb176); have GE176 := GW176; have NB174_176 := zaa.mk (nl hg BK174.out : gb174 ≠ gb176); have NB176_174 := zaa.mk (ng hg BK174.out : gb176 ≠ gb174); have NB175_176 := zaa.mk (nl hg BK175.out : gb175 ≠ gb176); have NB176_175 := zaa.mk (ng hg BK175.out : gb176 ≠ gb175); replace BK174 := zaa.mk (zaq (bk BK174.out) hb); replace BK175 := zaa.mk (zaq (bk BK175.out) hb); replace HB := zaa.mk (zan (bl HB.out) hb); clear hb hbox hg; have hnb30 := NB174_175.out; have hnc30 := NB175_174.out; have hnb31 := NB174_176.out; have hnc31 := NB176_174.out; have hcz32_0 : w29.cell? ⟨gb174, 0, none⟩ = some (.slice A0_0 l0_0.length c0_0) := (zac BK174.out 0).trans rfl; have hcz32_1 : w29.cell? ⟨gb174, 1, none⟩ = some (.bool false) := (zac BK174.out 1).trans rfl; have hcz32_2 : w29.cell? ⟨gb174, 2, none⟩ = some (.int .i64 a0_2) := (zac BK174.out 2).trans rfl; have hfz32_0 := zab BK174.out 0; have hfz32_1 := zab BK174.out 1; have hfz32_2 := zab BK174.out 2) | ((with_reducible refine zaL (N := 9) rfl ?_); refine zbq (N := 9) (cs := #[.bool false, .string (⟨#[]⟩ : ByteArray), .int .i64 0]) (t := 35) ?_; intro gb177 hg w33 hbox hb; have BK177 := zaa.mk (hbox); have GW177 := zaa.mk (gw hg (bl HB.out) : w.heap.size ≤ gb177); have GE177 := GW177; have NB174_177 := zaa.mk (nl hg BK174.out : gb174 ≠ gb177); have NB177_174 := zaa.mk (ng hg BK174.out : gb177 ≠ gb174); have NB175_177 := zaa.mk (nl hg BK175.out : gb175 ≠ gb177); have NB177_175 := zaa.mk (ng hg BK175.out : gb177 ≠ gb175); have NB176_177 := zaa.mk (nl hg BK176.out : gb176 ≠ gb177); have NB177_176 := zaa.mk (ng hg BK176.out : gb177 ≠ gb176); replace BK174 := zaa.mk (zaq (bk BK174.out) hb); replace BK175 := zaa.mk (zaq (bk BK175.out) hb); replace BK176 := zaa.mk (zaq (bk BK176.out) hb); replace HB := zaa.mk (zan (bl HB.out) hb); clear hb hbox hg; have hnb34 := NB177_174.out; have hnc34 := NB174_177.out; have hnb35 := NB177_175.out; have hnc35 := NB175_177.out; have hnb36 := NB177_176.out; have hnc36 := NB176_177.out; have hcz37_0 : w33.cell? ⟨gb177, 0, none⟩ = some (.bool false) := (zac BK177.out 0).trans rfl; have hcz37_1 : w33.cell? ⟨gb177, 1, none⟩ = some (.string (⟨#[]⟩ : ByteArray)) := (zac BK177.out 1).trans rfl; have hcz37_2 : w33.cell? ⟨gb177, 2, none⟩ = some (.int .i64 0) := (zac BK177.out 2).trans rfl; have hfz37_0 := zab BK177.out 0; have hfz37_1 := zab BK177.out 1; have hfz37_2 := zab BK177.out 2; have hcz38_0 : w33.cell? ⟨gb174, 0, none⟩ = some (.slice A0_0 l0_0.length c0_0) := (zac BK174.out 0).trans rfl; have hcz38_1 : w33.cell? ⟨gb174, 1, none⟩ = some (.bool false) := (zac BK174.out 1).trans rfl; have hcz38_2 : w33.cell? ⟨gb174, 2, none⟩ = some (.int .i64 a0_2) := (zac BK174.out 2).trans rfl; have hfz38_0 := zab BK174.out 0; have hfz38_1 := zab BK174.out 1; have hfz38_2 := zab BK174.out 2))
   have n0_ : zaa ((((w33.setCell ⟨gb177, 0, none⟩ (.bool a2)).setCell ⟨gb177, 1, none⟩ (.string a3)).setCell ⟨gb177, 2, none⟩ (.int .i64 a0_2)).heap[gb174]? = some (.cells #[.slice A0_0 l0_0.length c0_0, .bool false, .int .i64 a0_2] 73 (0, 0))) := ⟨bp BK174.out⟩
   have n1_ : zaa ((((w33.setCell ⟨gb177, 0, none⟩ (.bool a2)).setCell ⟨gb177, 1, none⟩ (.string a3)).setCell ⟨gb177, 2, none⟩ (.int .i64 a0_2)).heap[gb175]? = some (.cells #[.int .i64 a1_0, .int .i64 a1_1, .int .u64 a1_2, .string a1_3, .slice A1_4 l1_4.length c1_4] 27 (0, 0))) := ⟨bp BK175.out⟩
   have n2_ : zaa ((((w33.setCell ⟨gb177, 0, none⟩ (.bool a2)).setCell ⟨gb177, 1, none⟩ (.string a3)).setCell ⟨gb177, 2, none⟩ (.int .i64 a0_2)).heap[gb176]? = some (.cells #[.int .i64 0, .int .i64 0, .int .u64 0, .string (⟨#[]⟩ : ByteArray), .slice none 0 0] 27 (0, 0))) := ⟨bp BK176.out⟩
   have n3_ : zaa ((((w33.setCell ⟨gb177, 0, none⟩ (.bool a2)).setCell ⟨gb177, 1, none⟩ (.string a3)).setCell ⟨gb177, 2, none⟩ (.int .i64 a0_2)).heap[gb177]? = some (.cells #[.bool a2, .string a3, .int .i64 a0_2] 35 (0, 0))) := ⟨bp BK177.out⟩
   have n4_ : zaa (Below w.heap.size w (((w33.setCell ⟨gb177, 0, none⟩ (.bool a2)).setCell ⟨gb177, 1, none⟩ (.string a3)).setCell ⟨gb177, 2, none⟩ (.int .i64 a0_2))) := ⟨bl HB.out⟩
   (try clear BK174)
   (try clear BK175)
   (try clear BK176)
   (try clear BK177)
   (try clear HB)
   generalize (((w33.setCell ⟨gb177, 0, none⟩ (.bool a2)).setCell ⟨gb177, 1, none⟩ (.string a3)).setCell ⟨gb177, 2, none⟩ (.int .i64 a0_2)) = w39 at n0_ n1_ n2_ n3_ n4_ ⊢
   have BK174 := n0_
   have BK175 := n1_
   have BK176 := n2_
   have BK177 := n3_
   have HB := n4_
   clear n0_ n1_ n2_ n3_ n4_
   have n0_ := zaa.mk (zbh BK174.out)
   have n1_ := zaa.mk (zbh BK175.out)
   have n2_ := zaa.mk (zbh BK176.out)
   have n3_ := zaa.mk (zbh BK177.out)
   have n4_ := zaa.mk (zb8 HB.out)
   clear BK174
   clear BK175
   clear BK176
   clear BK177
   clear HB
   have BK174 := n0_
   have BK175 := n1_
   have BK176 := n2_
   have BK177 := n3_
   have HB := n4_
   clear n0_ n1_ n2_ n3_ n4_
   refine ziC (n := 8) (S := fun w' => w'.cell? ⟨gb175, 0, none⟩ = some (.int .i64 a1_0) ∧ w'.cell? ⟨gb175, 1, none⟩ = some (.int .i64 a1_1) ∧ w'.cell? ⟨gb175, 2, none⟩ = some (.int .u64 a1_2) ∧ w'.cell? ⟨gb175, 3, none⟩ = some (.string a1_3) ∧ w'.cell? ⟨gb175, 4, none⟩ = some (.slice A1_4 l1_4.length c1_4) ∧ w'.cell? ⟨gb177, 0, none⟩ = some (.bool a2) ∧ w'.cell? ⟨gb177, 1, none⟩ = some (.string a3) ∧ w'.cell? ⟨gb177, 2, none⟩ = some (.int .i64 a0_2)) (ds := [7]) #[false, false, false, false, false, false, false, false] k9 rfl rfl ⟨(zac BK175.out 0).trans rfl, (zac BK175.out 1).trans rfl, (zac BK175.out 2).trans rfl, (zac BK175.out 3).trans rfl, (zac BK175.out 4).trans rfl, (zac BK177.out 0).trans rfl, (zac BK177.out 1).trans rfl, (zac BK177.out 2).trans rfl⟩ (fun hHeld => ?_); refine zi0 zaM.tab4 zaM.bits4 (fun HT_ HW_ => ?_)
   generalize w39.drew = w40 at BK174 BK175 BK176 BK177 HB hHeld ⊢
   refine pure_ (i := 0) (N := some 22) (v := ?_) (a' := ?_) #[true, false, false, false, false, false, false, false] rfl rfl (zkz HT_.out k9) (fun _ _ _ h => h) (Or.inl ⟨by rfl, ?_⟩) ?_ ?_
   rotate_left
   ·
    intro w'
    go_simp
    with_reducible rfl
   rotate_left
   ·
    simp only [Act.put, List.setIfInBounds_toArray, List.set_cons_zero, List.set_cons_succ, i64_w, i32_w]
    rfl
   refine take_ (i := 1) (N := some 23) (v := ?_) (a' := ?_) #[true, true, false, false, false, false, false, false] rfl rfl (zhW HT_.out HW_.out k9) (fun _ _ _ h => h) (Or.inl ⟨by rfl, ?_⟩) hHeld ?_ ?_
   rotate_left
   ·
    rintro w' ⟨s0, s1, s2, s3, s4, s5, s6, s7⟩
    go_simp
    with_reducible rfl
   rotate_left
   ·
    simp only [Act.put, List.setIfInBounds_toArray, List.set_cons_zero, List.set_cons_succ, i64_w, i32_w]
    rfl
   refine take_ (i := 3) (N := some 25) (v := ?_) (a' := ?_) #[true, true, false, true, false, false, false, false] rfl rfl (zhW HT_.out HW_.out k9) (fun _ _ _ h => h) (Or.inl ⟨by rfl, ?_⟩) hHeld ?_ ?_
   rotate_left
   ·
    rintro w' ⟨s0, s1, s2, s3, s4, s5, s6, s7⟩
    go_simp
    with_reducible rfl
   rotate_left
   ·
    simp only [Act.put, List.setIfInBounds_toArray, List.set_cons_zero, List.set_cons_succ, i64_w, i32_w]
    rfl
   refine join_ (σ := Value × Value) 3 #[true, true, true, true, true, false, false, false] (fun s_ => [(24, s_.1), (26, s_.2)]) (fun s_ w' => (w'.cell? ⟨gb175, 0, none⟩ = some (.int .i64 a1_0) ∧ w'.cell? ⟨gb175, 1, none⟩ = some (.int .i64 a1_1) ∧ w'.cell? ⟨gb175, 2, none⟩ = some (.int .u64 a1_2) ∧ w'.cell? ⟨gb175, 3, none⟩ = some (.string a1_3) ∧ w'.cell? ⟨gb175, 4, none⟩ = some (.slice A1_4 l1_4.length c1_4) ∧ w'.cell? ⟨gb177, 0, none⟩ = some (.bool a2) ∧ w'.cell? ⟨gb177, 1, none⟩ = some (.string a3) ∧ w'.cell? ⟨gb177, 2, none⟩ = some (.int .i64 a0_2)) ∧ (Kd.R k35 35 w' w.heap.size (fun k_ => some k_ ≠ (s_.2 : Value).ownBlock ∧ k_ ≠ gb177) s_.1 t181) ∧ (Kd.R k35 35 w' w.heap.size (fun k_ => some k_ ≠ (s_.1 : Value).ownBlock ∧ k_ ≠ gb177) s_.2 y184) ∧ (w'.heap[gb174]? = some (.cells #[.slice A0_0 l0_0.length c0_0, .bool false, .int .i64 a0_2] 73 (0, 0))) ∧ (w'.heap[gb175]? = some (.cells #[.int .i64 a1_0, .int .i64 a1_1, .int .u64 a1_2, .string a1_3, .slice A1_4 l1_4.length c1_4] 27 (0, 0))) ∧ (w'.heap[gb176]? = some (.cells #[.int .i64 0, .int .i64 0, .int .u64 0, .string (⟨#[]⟩ : ByteArray), .slice none 0 0] 27 (0, 0))) ∧ (w'.heap[gb177]? = some (.cells #[.bool a2, .string a3, .int .i64 a0_2] 35 (0, 0))) ∧ (Below w.heap.size w w')) ?_ ?_
   rotate_left
   ·
    intro hCont
    refine two_ (i := 2) (j := 4) (Ni := some 24) (Nj := some 26) #[true, true, true, true, false, false, false, false] #[true, true, false, true, true, false, false, false] rfl rfl rfl rfl (zlW HT_.out k9) d9 d9 (fun K hK => ?_) (fun K hK => ?_)
    ·
     skip
     refine goes_ Try.func52 k9 rfl #[.slice A1_4 l1_4.length c1_4] (by rfl) rfl rfl m9 ?_
     with_reducible refine (zaZ.calls _ _ l1_4 t181 _ ?side1 ?side2 A25.out).mono ?_
     (case side1 => repeat (first | exact (Kd.zat HR1_4.out HB.out) | (with_reducible refine Kd.zbr ?_ _) | (with_reducible refine Kd.zbx ?_ _) | (with_reducible refine Kd.zbu ?_)))
     (case side2 => exact HC1_4.out)
     rintro e w41 ⟨v182, rfl, ho0, hb⟩
     refine ⟨_, rfl, ?_⟩
     have n0_ := zaa.mk (Kd.zbi (Kd.zeC ho0 (g := gb177) (o := .cells #[.bool a2, .string a3, .int .i64 a0_2] 35 (0, 0)) (bk BK177.out)) (zaO (bl HB.out)))
     have n1_ := zaa.mk (zaq (bk BK174.out) hb)
     have n2_ := zaa.mk (zaq (bk BK175.out) hb)
     have n3_ := zaa.mk (zaq (bk BK176.out) hb)
     have n4_ := zaa.mk (zaq (bk BK177.out) hb)
     have n5_ := zaa.mk (zan (bl HB.out) hb)
     clear BK174
     clear BK175
     clear BK176
     clear BK177
     clear HB
     have HO183 := n0_
     have BK174 := n1_
     have BK175 := n2_
     have BK176 := n3_
     have BK177 := n4_
     have HB := n5_
     clear n0_ n1_ n2_ n3_ n4_ n5_
     (try clear hb)
     (try clear hb2)
     (try clear hk)
     (try clear hi)
     (try clear ho0)
     refine hK.out _ _ ⟨(zac BK175.out 0).trans rfl, (zac BK175.out 1).trans rfl, (zac BK175.out 2).trans rfl, (zac BK175.out 3).trans rfl, (zac BK175.out 4).trans rfl, (zac BK177.out 0).trans rfl, (zac BK177.out 1).trans rfl, (zac BK177.out 2).trans rfl⟩ (fun hHeld => ?_)
     clear hK K
     refine norm_ (a' := ?_) ?_ ?_
     rotate_left
     ·
      show Act.put _ (some 24) _ = _
      simp only [Act.put, List.setIfInBounds_toArray, List.set_cons_zero, List.set_cons_succ, i64_w, i32_w]
      rfl
     refine one_ (i := 4) (N := some 26) #[true, true, true, true, true, false, false, false] rfl rfl (zhD HT_.out k9) d9 (fun K hK => ?_)
     refine Kd.zd1 k35 _ 35 ?hg (N := 26) ?hd (xs := ([(⟨a2, a3, a0_2⟩ : S35)] : List (S35))) (inner := [.bool a2, .string a3, .int .i64 a0_2]) (ok := fun _ => True) (okp := fun _ => True) ?hr ?hp (fun _ hk => hk) trivial (Below.refl _ _) (Nat.le_refl _) s9 ?_; (case hd => rfl); (case hg => rfl); (case hr => first | (go_simp; done) | (go_simp; rfl)); (case hp => exact (Reps.c3 (show Kd.M k35 _ _ _ (⟨a2, a3, a0_2⟩ : S35) [.bool a2, .string a3, .int .i64 a0_2] from (zce _ _ _ (⟨a2, a3, a0_2⟩ : S35) )) (Reps.none _ _)))
     intro v185 w42 ho43 hb hg_ hnew_
     clear hg_ hnew_
     (first | rw [← Ny184.out] at ho43 | (simp only [Int.reduceToNat] at ho43; rw [← Ny184.out] at ho43))
     have n0_ := zaa.mk (Kd.zcY (rk HO183.out) (Kd.zci ho43) hb)
     have n1_ := zaa.mk (Kd.zbi (Kd.zeC (Kd.zeX ho43 (Kd.R_lt (rk HO183.out))) (g := gb177) (o := .cells #[.bool a2, .string a3, .int .i64 a0_2] 35 (0, 0)) (bk BK177.out)) (zaO (bl HB.out)))
     have n2_ := zaa.mk (zaq (bk BK174.out) hb)
     have n3_ := zaa.mk (zaq (bk BK175.out) hb)
     have n4_ := zaa.mk (zaq (bk BK176.out) hb)
     have n5_ := zaa.mk (zaq (bk BK177.out) hb)
     have n6_ := zaa.mk (zan (bl HB.out) hb)
     clear HO183
     clear BK174
     clear BK175
     clear BK176
     clear BK177
     clear HB
     have HO183 := n0_
     have HO186 := n1_
     have BK174 := n2_
     have BK175 := n3_
     have BK176 := n4_
     have BK177 := n5_
     have HB := n6_
     clear n0_ n1_ n2_ n3_ n4_ n5_ n6_
     clear hb ho43
     refine hK.out _ _ ⟨(zac BK175.out 0).trans rfl, (zac BK175.out 1).trans rfl, (zac BK175.out 2).trans rfl, (zac BK175.out 3).trans rfl, (zac BK175.out 4).trans rfl, (zac BK177.out 0).trans rfl, (zac BK177.out 1).trans rfl, (zac BK177.out 2).trans rfl⟩ (fun hHeld => ?_)
     clear hK K
     refine norm_ (a' := ?_) ?_ ?_
     rotate_left
     ·
      show Act.put _ (some 26) _ = _
      simp only [Act.put, List.setIfInBounds_toArray, List.set_cons_zero, List.set_cons_succ, i64_w, i32_w]
      rfl
     exact norm_ (by simp only [zfu, Act.put, List.setIfInBounds_toArray, List.set_cons_zero, List.set_cons_succ]) (hCont (v182, v185) _ ⟨hHeld, (by (with_reducible repeat (first | apply Kd.zbt | apply Kd.zbA | apply Kd.zbN)); exact Kd.za0 HO183.out (fun _ hk => ⟨hk.2, hk.1.2⟩)), (by (with_reducible repeat (first | apply Kd.zbt | apply Kd.zbA | apply Kd.zbN)); exact Kd.za0 HO186.out (fun _ hk => ⟨hk.1.2, hk.2⟩)), (bk BK174.out), (bk BK175.out), (bk BK176.out), (bk BK177.out), (bl HB.out)⟩)
    ·
     skip
     refine Kd.zd1 k35 _ 35 ?hg (N := 26) ?hd (xs := ([(⟨a2, a3, a0_2⟩ : S35)] : List (S35))) (inner := [.bool a2, .string a3, .int .i64 a0_2]) (ok := fun _ => True) (okp := fun _ => True) ?hr ?hp (fun _ hk => hk) trivial (Below.refl _ _) (Nat.le_refl _) s9 ?_; (case hd => rfl); (case hg => rfl); (case hr => first | (go_simp; done) | (go_simp; rfl)); (case hp => exact (Reps.c3 (show Kd.M k35 _ _ _ (⟨a2, a3, a0_2⟩ : S35) [.bool a2, .string a3, .int .i64 a0_2] from (zce _ _ _ (⟨a2, a3, a0_2⟩ : S35) )) (Reps.none _ _)))
     intro v185 w41 ho42 hb hg_ hnew_
     clear hg_ hnew_
     (first | rw [← Ny184.out] at ho42 | (simp only [Int.reduceToNat] at ho42; rw [← Ny184.out] at ho42))
     have n0_ := zaa.mk (Kd.zbi (Kd.zeC ho42 (g := gb177) (o := .cells #[.bool a2, .string a3, .int .i64 a0_2] 35 (0, 0)) (bk BK177.out)) (zaO (bl HB.out)))
     have n1_ := zaa.mk (zaq (bk BK174.out) hb)
     have n2_ := zaa.mk (zaq (bk BK175.out) hb)
     have n3_ := zaa.mk (zaq (bk BK176.out) hb)
     have n4_ := zaa.mk (zaq (bk BK177.out) hb)
     have n5_ := zaa.mk (zan (bl HB.out) hb)
     clear BK174
     clear BK175
     clear BK176
     clear BK177
     clear HB
     have HO186 := n0_
     have BK174 := n1_
     have BK175 := n2_
     have BK176 := n3_
     have BK177 := n4_
     have HB := n5_
     clear n0_ n1_ n2_ n3_ n4_ n5_
     clear hb ho42
     refine hK.out _ _ ⟨(zac BK175.out 0).trans rfl, (zac BK175.out 1).trans rfl, (zac BK175.out 2).trans rfl, (zac BK175.out 3).trans rfl, (zac BK175.out 4).trans rfl, (zac BK177.out 0).trans rfl, (zac BK177.out 1).trans rfl, (zac BK177.out 2).trans rfl⟩ (fun hHeld => ?_)
     clear hK K
     refine norm_ (a' := ?_) ?_ ?_
     rotate_left
     ·
      show Act.put _ (some 26) _ = _
      simp only [Act.put, List.setIfInBounds_toArray, List.set_cons_zero, List.set_cons_succ, i64_w, i32_w]
      rfl
     refine one_ (i := 2) (N := some 24) #[true, true, true, true, true, false, false, false] rfl rfl (zhD HT_.out k9) d9 (fun K hK => ?_)
     refine goes_ Try.func52 k9 rfl #[.slice A1_4 l1_4.length c1_4] (by rfl) rfl rfl m9 ?_
     with_reducible refine (zaZ.calls _ _ l1_4 t181 _ ?side1 ?side2 A25.out).mono ?_
     (case side1 => repeat (first | exact (Kd.zat HR1_4.out HB.out) | (with_reducible refine Kd.zbr ?_ _) | (with_reducible refine Kd.zbx ?_ _) | (with_reducible refine Kd.zbu ?_)))
     (case side2 => exact HC1_4.out)
     rintro e w43 ⟨v182, rfl, ho0, hb⟩
     refine ⟨_, rfl, ?_⟩
     have n0_ := zaa.mk (Kd.zcY (rk HO186.out) (Kd.zci ho0) hb)
     have n1_ := zaa.mk (Kd.zbi (Kd.zeC (Kd.zeX ho0 (Kd.R_lt (rk HO186.out))) (g := gb177) (o := .cells #[.bool a2, .string a3, .int .i64 a0_2] 35 (0, 0)) (bk BK177.out)) (zaO (bl HB.out)))
     have n2_ := zaa.mk (zaq (bk BK174.out) hb)
     have n3_ := zaa.mk (zaq (bk BK175.out) hb)
     have n4_ := zaa.mk (zaq (bk BK176.out) hb)
     have n5_ := zaa.mk (zaq (bk BK177.out) hb)
     have n6_ := zaa.mk (zan (bl HB.out) hb)
     clear HO186
     clear BK174
     clear BK175
     clear BK176
     clear BK177
     clear HB
     have HO186 := n0_
     have HO183 := n1_
     have BK174 := n2_
     have BK175 := n3_
     have BK176 := n4_
     have BK177 := n5_
     have HB := n6_
     clear n0_ n1_ n2_ n3_ n4_ n5_ n6_
     (try clear hb)
     (try clear hb2)
     (try clear hk)
     (try clear hi)
     (try clear ho0)
     refine hK.out _ _ ⟨(zac BK175.out 0).trans rfl, (zac BK175.out 1).trans rfl, (zac BK175.out 2).trans rfl, (zac BK175.out 3).trans rfl, (zac BK175.out 4).trans rfl, (zac BK177.out 0).trans rfl, (zac BK177.out 1).trans rfl, (zac BK177.out 2).trans rfl⟩ (fun hHeld => ?_)
     clear hK K
     refine norm_ (a' := ?_) ?_ ?_
     rotate_left
     ·
      show Act.put _ (some 24) _ = _
      simp only [Act.put, List.setIfInBounds_toArray, List.set_cons_zero, List.set_cons_succ, i64_w, i32_w]
      rfl
     exact norm_ (by simp only [zfu, Act.put, List.setIfInBounds_toArray, List.set_cons_zero, List.set_cons_succ]) (hCont (v182, v185) _ ⟨hHeld, (by (with_reducible repeat (first | apply Kd.zbt | apply Kd.zbA | apply Kd.zbN)); exact Kd.za0 HO183.out (fun _ hk => ⟨hk.1.2, hk.2⟩)), (by (with_reducible repeat (first | apply Kd.zbt | apply Kd.zbA | apply Kd.zbN)); exact Kd.za0 HO186.out (fun _ hk => ⟨hk.2, hk.1.2⟩)), (bk BK174.out), (bk BK175.out), (bk BK176.out), (bk BK177.out), (bl HB.out)⟩)
   rintro ⟨v182, v185⟩ w44 ⟨hS_, h0_, h1_, h2_, h3_, h4_, h5_, h6_⟩
   have n0_ : zaa (Kd.R k35 35 w44 w.heap.size (fun k_ => some k_ ≠ (v185 : Value).ownBlock ∧ k_ ≠ gb177) v182 t181) := ⟨h0_⟩
   have n1_ : zaa (Kd.R k35 35 w44 w.heap.size (fun k_ => some k_ ≠ (v182 : Value).ownBlock ∧ k_ ≠ gb177) v185 y184) := ⟨h1_⟩
   have n2_ : zaa (w44.heap[gb174]? = some (.cells #[.slice A0_0 l0_0.length c0_0, .bool false, .int .i64 a0_2] 73 (0, 0))) := ⟨h2_⟩
   have n3_ : zaa (w44.heap[gb175]? = some (.cells #[.int .i64 a1_0, .int .i64 a1_1, .int .u64 a1_2, .string a1_3, .slice A1_4 l1_4.length c1_4] 27 (0, 0))) := ⟨h3_⟩
   have n4_ : zaa (w44.heap[gb176]? = some (.cells #[.int .i64 0, .int .i64 0, .int .u64 0, .string (⟨#[]⟩ : ByteArray), .slice none 0 0] 27 (0, 0))) := ⟨h4_⟩
   have n5_ : zaa (w44.heap[gb177]? = some (.cells #[.bool a2, .string a3, .int .i64 a0_2] 35 (0, 0))) := ⟨h5_⟩
   have n6_ : zaa (Below w.heap.size w w44) := ⟨h6_⟩
   clear BK174
   clear BK175
   clear BK176
   clear BK177
   clear HB
   clear h0_ h1_ h2_ h3_ h4_ h5_ h6_
   have HO183 := n0_
   have HO186 := n1_
   have BK174 := n2_
   have BK175 := n3_
   have BK176 := n4_
   have BK177 := n5_
   have HB := n6_
   clear n0_ n1_ n2_ n3_ n4_ n5_ n6_
   have hHeld : w44.cell? ⟨gb175, 0, none⟩ = some (.int .i64 a1_0) ∧ w44.cell? ⟨gb175, 1, none⟩ = some (.int .i64 a1_1) ∧ w44.cell? ⟨gb175, 2, none⟩ = some (.int .u64 a1_2) ∧ w44.cell? ⟨gb175, 3, none⟩ = some (.string a1_3) ∧ w44.cell? ⟨gb175, 4, none⟩ = some (.slice A1_4 l1_4.length c1_4) ∧ w44.cell? ⟨gb177, 0, none⟩ = some (.bool a2) ∧ w44.cell? ⟨gb177, 1, none⟩ = some (.string a3) ∧ w44.cell? ⟨gb177, 2, none⟩ = some (.int .i64 a0_2) := hS_
   obtain ⟨Ao46, co46, eo46⟩ := Kd.zbj HO186.out
   (first | subst eo46 | (injection eo46 with f1_ f2_ f3_; have f4_ := f1_.symm; have f5_ := f3_.symm; clear f1_ f2_ f3_; subst f4_; subst f5_))
   refine norm_ (a' := ?_) ?_ ?_
   rotate_left
   ·
    simp only [zfu, Act.put, List.setIfInBounds_toArray, List.set_cons_zero, List.set_cons_succ]
    rfl
   refine one_ (i := 5) (N := some 27) #[true, true, true, true, true, true, false, false] rfl rfl (zhD HT_.out k9) d9 (fun K hK => ?_)
   refine Kd.zdG k35 (w0 := w) w.heap.size (by rfl) (.tmp 24) (.tmp 26) 25 35 (.agg #[(.bool false), (.string ⟨#[]⟩), (.int .i64 0)]) 32 rfl Try.underlying25 zlD rfl d9 o9 v182 t181 y184 _ _ _ (fun k_ => some k_ ≠ (.slice Ao46 y184.length co46 : Value).ownBlock ∧ k_ ≠ gb177) (fun _ => False) rfl rfl ?aO ?aR (fun _ _ h => h) (fun _ h => h.elim) ?aF ?aB ?aS ?aL ?_
   (case aR => repeat (first | exact (Kd.zbn HO186.out).2.2 | (with_reducible refine Kd.zbr ?_ _) | (with_reducible refine Kd.zbx ?_ _) | (with_reducible refine Kd.zbu ?_)))
   (case aB => exact (bl HB.out))
   (case aF => exact (fun k_ hk => ⟨Kd.fresh' (Kd.R_lt (rk HO186.out)) k_ hk, Kd.zlH (g := gb177) (o := .cells #[.bool a2, .string a3, .int .i64 a0_2] 35 (0, 0)) (bk BK177.out) k_ hk⟩))
   (case aO => exact (rk HO183.out))
   (case aS => exact (zaO (bl HB.out)))
   (case aL => have := LMc26.out; omega)
   intro v188 w45 ho hb hg hat
   rw [← Ny187.out] at ho
   have n0_ := zaa.mk (zcD (g := gb174) (o := .cells #[.slice A0_0 l0_0.length c0_0, .bool false, .int .i64 a0_2] 73 (0, 0)) (bk BK174.out) hg (Kd.R_ne HO183.out BK174.out d9))
   have n1_ := zaa.mk (zcD (g := gb175) (o := .cells #[.int .i64 a1_0, .int .i64 a1_1, .int .u64 a1_2, .string a1_3, .slice A1_4 l1_4.length c1_4] 27 (0, 0)) (bk BK175.out) hg (Kd.R_ne HO183.out BK175.out d9))
   have n2_ := zaa.mk (zcD (g := gb176) (o := .cells #[.int .i64 0, .int .i64 0, .int .u64 0, .string (⟨#[]⟩ : ByteArray), .slice none 0 0] 27 (0, 0)) (bk BK176.out) hg (Kd.R_ne HO183.out BK176.out d9))
   have n3_ := zaa.mk (zcD (g := gb177) (o := .cells #[.bool a2, .string a3, .int .i64 a0_2] 35 (0, 0)) (bk BK177.out) hg (Kd.zlJ HO183.out (fun _ hk => hk.2)))
   have n4_ := zaa.mk (Kd.zli (ok := (fun k_ => k_ ≠ gb177)) (by (with_reducible repeat (first | apply Kd.zbt | apply Kd.zbA | apply Kd.zbN)); exact Kd.za0 HO186.out (fun _ hk => ⟨hk.2, hk.1⟩)) hg hat)
   have n5_ := zaa.mk (hb)
   have n6_ := zaa.mk (ho)
   clear BK174
   clear BK175
   clear BK176
   clear BK177
   clear HO186
   clear HB
   clear HO183
   have BK174 := n0_
   have BK175 := n1_
   have BK176 := n2_
   have BK177 := n3_
   have HO186 := n4_
   have HB := n5_
   have HO189 := n6_
   clear n0_ n1_ n2_ n3_ n4_ n5_ n6_
   clear ho hb hg hat
   obtain ⟨Ao47, co47, eo47⟩ := Kd.zbj HO189.out
   (first | subst eo47 | (injection eo47 with f1_ f2_ f3_; have f4_ := f1_.symm; have f5_ := f3_.symm; clear f1_ f2_ f3_; subst f4_; subst f5_))
   refine hK.out _ _ ⟨(zac BK175.out 0).trans rfl, (zac BK175.out 1).trans rfl, (zac BK175.out 2).trans rfl, (zac BK175.out 3).trans rfl, (zac BK175.out 4).trans rfl, (zac BK177.out 0).trans rfl, (zac BK177.out 1).trans rfl, (zac BK177.out 2).trans rfl⟩ (fun hHeld => ?_)
   clear hK K
   refine norm_ (a' := ?_) ?_ ?_
   rotate_left
   ·
    show Act.put _ (some 27) _ = _
    simp only [Act.put, List.setIfInBounds_toArray, List.set_cons_zero, List.set_cons_succ, i64_w, i32_w]
    rfl
   refine pure_ (i := 6) (N := some 28) (v := ?_) (a' := ?_) #[true, true, true, true, true, true, true, false] rfl rfl (zkz HT_.out k9) (fun _ _ _ h => h) (Or.inl ⟨by rfl, ?_⟩) ?_ ?_
   rotate_left
   ·
    intro w'
    go_simp
    with_reducible rfl
   rotate_left
   ·
    simp only [Act.put, List.setIfInBounds_toArray, List.set_cons_zero, List.set_cons_succ, i64_w, i32_w]
    rfl
   refine last_ (i := 7) (N := none) #[true, true, true, true, true, true, true, true] rfl rfl (zhD HT_.out k9) d9 (fun K hK => ?_)
   have hs48 : w45.cell? ⟨gb175, 4, none⟩ = some (.slice A1_4 l1_4.length c1_4) := (zac BK175.out 4).trans rfl
   have hfs48 := zab BK175.out 4
   have hns48_0 := NB174_175.out
   have hns48_2 := NB176_175.out
   have hns48_3 := NB177_175.out
   have hms48_0 := NB175_174.out
   have hms48_2 := NB175_176.out
   have hms48_3 := NB175_177.out
   refine skip_ (w1 := ?_) (by rfl) rfl ?_ ?_
   rotate_left
   ·
    go_simp
    rfl
   refine hK.out _ _ ?_
   clear hK K
   refine done_ (zla HT_.out k9) ?_
   have hnb49 := NB175_176.out
   have hnc49 := NB176_175.out
   have hcz50_0 : w45.cell? ⟨gb175, 0, none⟩ = some (.int .i64 a1_0) := (zac BK175.out 0).trans rfl
   have hcz50_1 : w45.cell? ⟨gb175, 1, none⟩ = some (.int .i64 a1_1) := (zac BK175.out 1).trans rfl
   have hcz50_2 : w45.cell? ⟨gb175, 2, none⟩ = some (.int .u64 a1_2) := (zac BK175.out 2).trans rfl
   have hcz50_3 : w45.cell? ⟨gb175, 3, none⟩ = some (.string a1_3) := (zac BK175.out 3).trans rfl
   have hcz50_4 : w45.cell? ⟨gb175, 4, none⟩ = some (.slice A1_4 l1_4.length c1_4) := (zac BK175.out 4).trans rfl
   have hfz50_0 := zab BK175.out 0
   have hfz50_1 := zab BK175.out 1
   have hfz50_2 := zab BK175.out 2
   have hfz50_3 := zab BK175.out 3
   have hfz50_4 := zab BK175.out 4
   have hcz51_0 : w45.cell? ⟨gb176, 0, none⟩ = some (.int .i64 0) := (zac BK176.out 0).trans rfl
   have hcz51_1 : w45.cell? ⟨gb176, 1, none⟩ = some (.int .i64 0) := (zac BK176.out 1).trans rfl
   have hcz51_2 : w45.cell? ⟨gb176, 2, none⟩ = some (.int .u64 0) := (zac BK176.out 2).trans rfl
   have hcz51_3 : w45.cell? ⟨gb176, 3, none⟩ = some (.string (⟨#[]⟩ : ByteArray)) := (zac BK176.out 3).trans rfl
   have hcz51_4 : w45.cell? ⟨gb176, 4, none⟩ = some (.slice none 0 0) := (zac BK176.out 4).trans rfl
   have hfz51_0 := zab BK176.out 0
   have hfz51_1 := zab BK176.out 1
   have hfz51_2 := zab BK176.out 2
   have hfz51_3 := zab BK176.out 3
   have hfz51_4 := zab BK176.out 4
   try go_wp2
   refine bodyPost_ret (results_cell_row rfl _ _ gb176 27 #[.int .i64 a1_0, .int .i64 a1_1, .int .u64 a1_2, .string a1_3, .slice Ao47 y187.length co47] (0, 0) _ rfl (bp BK176.out) Try.underlying27 rfl k9) rfl ?_
   exact ⟨_, by first | rfl | (simp [zaz, zaA] <;> rfl) | (simp [*, zaz, zaA] <;> rfl), by (with_reducible repeat (first | apply Kd.zbt | apply Kd.zbA | apply Kd.zbN)); exact Kd.za0 (Kd.R_far (p := ⟨gb176, 4, none⟩) (Kd.R_far (p := ⟨gb176, 3, none⟩) (Kd.R_far (p := ⟨gb176, 2, none⟩) (Kd.R_far (p := ⟨gb176, 1, none⟩) (Kd.R_far (p := ⟨gb176, 0, none⟩) (Kd.R_far (p := ⟨gb175, 4, none⟩) (Kd.zbJ (Kd.zbJ HO189.out BK175.out d9) BK176.out d9) (fun _ hk => hk.1.2) (.slice Ao47 y187.length co47)) (fun _ hk => hk.2) (.int .i64 a1_0)) (fun _ hk => hk.2) (.int .i64 a1_1)) (fun _ hk => hk.2) (.int .u64 a1_2)) (fun _ hk => hk.2) (.string a1_3)) (fun _ hk => hk.2) (.slice Ao47 y187.length co47)) (fun _ hk => trivial), bl HB.out⟩
  ·
   rw [if_neg c26] at H
   exact absurd H s9
def zav.j0 : Nat → ByteArray → Bool → List (S64) → Bool → Int → Int → Int → Int → ByteArray → List (S35) → Option (Int × Int × Int × ByteArray × (List (S35)))
 | 0, _, _, _, _, _, _, _, _, _, _ => none
 | k + 1, x2, x14, x191000, x191001, x191002, x192000, x192001, x192002, x192003, x192004 => if x14 = true then ((zaZ.f x192004).bind fun t194 => (some (x192000, x192001, x192002, x192003, t194))) else ((zaM.f x191000 x191001 x191002 x192000 x192001 x192002 x192003 x192004 false x2).bind fun bt197 => (some (bt197.1, bt197.2.1, bt197.2.2.1, bt197.2.2.2.1, bt197.2.2.2.2)))
def zav.f (k : Nat) (l0_0 : List (S64)) (a0_1 : Bool) (a0_2 : Int) (a1_0 : Int) (a1_1 : Int) (a1_2 : Int) (a1_3 : ByteArray) (l1_4 : List (S35)) (a2 : ByteArray) : Option (Int × Int × Int × ByteArray × (List (S35))) := (zb3.f a2).bind fun t193 => (if t193 = 3 then (zav.j0 k a2 (a1_0 != 7) l0_0 a0_1 a0_2 a1_0 a1_1 a1_2 a1_3 l1_4) else (zav.j0 k a2 true l0_0 a0_1 a0_2 a1_0 a1_1 a1_2 a1_3 l1_4))
theorem zav.zbM : ∀ k, (∀ y0 y1 y2 y3 y4 y5 y6 y7 y8 y9, LeO (zav.j0 k y0 y1 y2 y3 y4 y5 y6 y7 y8 y9) (zav.j0 (k + 1) y0 y1 y2 y3 y4 y5 y6 y7 y8 y9))
 | 0 => fun _ _ _ _ _ _ _ _ _ _ r h => by simp [zav.j0] at h
 | k + 1 => by
  have ih0 := zav.zbM k
  ·
   intro y0 y1 y2 y3 y4 y5 y6 y7 y8 y9
   unfold zav.j0
   repeat' first
   | (with_reducible exact ih0 _ _ _ _ _ _ _ _ _ _)
   | (with_reducible exact LeO.refl _)
   | (with_reducible exact LeO.none _)
   | (with_reducible refine LeO.ite ?_ ?_)
   | (with_reducible refine LeO.bind ?_ (fun _ => ?_))
   | exact ih0 _ _ _ _ _ _ _ _ _ _
   | exact LeO.none _
   | refine LeO.ite ?_ ?_
   | refine LeO.bind ?_ (fun _ => ?_)
theorem zav.mono : ∀ a0 a1 a2 a3 a4 a5 a6 a7 a8 k, LeO (zav.f k a0 a1 a2 a3 a4 a5 a6 a7 a8) (zav.f (k + 1) a0 a1 a2 a3 a4 a5 a6 a7 a8) := by
 intro a0 a1 a2 a3 a4 a5 a6 a7 a8 k
 have ih0 := zav.zbM k
 unfold zav.f
 repeat' first
   | (with_reducible exact ih0 _ _ _ _ _ _ _ _ _ _)
   | (with_reducible exact LeO.refl _)
   | (with_reducible exact LeO.none _)
   | (with_reducible refine LeO.ite ?_ ?_)
   | (with_reducible refine LeO.bind ?_ (fun _ => ?_))
   | exact ih0 _ _ _ _ _ _ _ _ _ _
   | exact LeO.none _
   | refine LeO.ite ?_ ?_
   | refine LeO.bind ?_ (fun _ => ?_)
theorem zav.calls (k : Nat) (A0_0 : Option Addr) (c0_0 : Nat) (l0_0 : List (S64)) (a0_1 : Bool) (a0_2 : Int) (a1_0 : Int) (a1_1 : Int) (a1_2 : Int) (a1_3 : ByteArray) (A1_4 : Option Addr) (c1_4 : Nat) (l1_4 : List (S35)) (a2 : ByteArray) (r1 : Int) (r2 : Int) (r3 : Int) (r4 : ByteArray) (r5 : List (S35)) (w : World) (hr0_0 : Kd.C k64 w A0_0 l0_0.length l0_0) (hc0_0 : l0_0.length ≤ c0_0) (hr1_4 : Kd.C k35 w A1_4 l1_4.length l1_4) (hc1_4 : l1_4.length ≤ c1_4) (h : zav.f k l0_0 a0_1 a0_2 a1_0 a1_1 a1_2 a1_3 l1_4 a2 = some (r1, r2, r3, r4, r5)) :
  Calls Try.prog 36 #[.agg #[.slice A0_0 l0_0.length c0_0, .bool a0_1, .int .i64 a0_2], .agg #[.int .i64 a1_0, .int .i64 a1_1, .int .u64 a1_2, .string a1_3, .slice A1_4 l1_4.length c1_4], .string a2] w fun e w' => ∃ v4_ : Value, e = .returned (.agg #[.int .i64 r1, .int .i64 r2, .int .u64 r3, .string r4, v4_]) ∧ Kd.R k35 35 w' w.heap.size (fun _ => True) v4_ r5 ∧ Below w.heap.size w w' := by
 have hu73 := Try.underlying73
 have hu27 := Try.underlying27
 have HR0_0 := zaa.mk hr0_0
 have HC0_0 := zaa.mk hc0_0
 clear hr0_0 hc0_0
 have HR1_4 := zaa.mk hr1_4
 have HC1_4 := zaa.mk hc1_4
 clear hr1_4 hc1_4
 have HB := zaa.mk (Below.refl w.heap.size w)
 have H : ((zb3.f a2).bind fun t193 => (if t193 = 3 then (zav.j0 k a2 (a1_0 != 7) l0_0 a0_1 a0_2 a1_0 a1_1 a1_2 a1_3 l1_4) else (zav.j0 k a2 true l0_0 a0_1 a0_2 a1_0 a1_1 a1_2 a1_3 l1_4))) = some (r1, r2, r3, r4, r5) := h
 clear h
 have HC4 := zaa.mk H
 clear H
 go_enter Try.func36, Try.ntmps36
 go_upto_region 1 with (first | ((with_reducible refine zaL (N := 3) rfl ?_); refine zbq (N := 3) (cs := #[.slice A0_0 l0_0.length c0_0, .bool a0_1, .int .i64 a0_2]) (t := 73) ?_; intro gb190 hg w5 hbox hb; have BK190 := zaa.mk (hbox); have GW190 := zaa.mk (gw hg (bl HB.out) : w.heap.size ≤ gb190); have GE190 := GW190; replace HB := zaa.mk (zan (bl HB.out) hb); clear hb hbox hg) | ((with_reducible refine zaL (N := 4) rfl ?_); refine zbq (N := 4) (cs := #[.int .i64 a1_0, .int .i64 a1_1, .int .u64 a1_2, .string a1_3, .slice A1_4 l1_4.length c1_4]) (t := 27) ?_; intro gb191 hg w6 hbox hb; have BK191 := zaa.mk (hbox); have GW191 := zaa.mk (gw hg (bl HB.out) : w.heap.size ≤ gb191); have GE191 := GW191; have NB190_191 := zaa.mk (nl hg BK190.out : gb190 ≠ gb191); have NB191_190 := zaa.mk (ng hg BK190.out : gb191 ≠ gb190); replace BK190 := zaa.mk (zaq (bk BK190.out) hb); replace HB := zaa.mk (zan (bl HB.out) hb); clear hb hbox hg) | ((with_reducible refine zaL (N := 6) rfl ?_); refine zbq (N := 6) (cs := #[.int .i64 0, .int .i64 0, .int .u64 0, .string (⟨#[]⟩ : ByteArray), .slice none 0 0]) (t := 27) ?_; intro gb192 hg w7 hbox hb; have BK192 := zaa.mk (hbox); have GW192 := zaa.mk (gw hg (bl HB.out) : w.heap.size ≤ gb192); have GE192 := GW192; have NB190_192 := zaa.mk (nl hg BK190.out : gb190 ≠ gb192); have NB192_190 := zaa.mk (ng hg BK190.out : gb192 ≠ gb190); have NB191_192 := zaa.mk (nl hg BK191.out : gb191 ≠ gb192); have NB192_191 := zaa.mk (ng hg BK191.out : gb192 ≠ gb191); replace BK190 := zaa.mk (zaq (bk BK190.out) hb); replace BK191 := zaa.mk (zaq (bk BK191.out) hb); replace HB := zaa.mk (zan (bl HB.out) hb); clear hb hbox hg))
 (try simp only [Act.put, List.setIfInBounds_toArray, List.set_cons_zero, List.set_cons_succ])
 go_cut [14] (fun v14 wc => ∃ (kq : Nat) (x14_3 : Bool), v14 = .bool x14_3 ∧ zaa (zav.j0 kq a2 x14_3 l0_0 a0_1 a0_2 a1_0 a1_1 a1_2 a1_3 l1_4 = some (r1, r2, r3, r4, r5)) ∧ zaa (kq ≤ k) ∧ zaa (wc.heap[gb190]? = some (.cells #[(.slice A0_0 l0_0.length c0_0), .bool a0_1, .int .i64 a0_2] 73 (0, 0))) ∧ zaa (wc.heap[gb191]? = some (.cells #[.int .i64 a1_0, .int .i64 a1_1, .int .u64 a1_2, .string a1_3, (.slice A1_4 l1_4.length c1_4)] 27 (0, 0))) ∧ zaa (wc.heap[gb192]? = some (.cells #[.int .i64 0, .int .i64 0, .int .u64 0, .string (⟨#[]⟩ : ByteArray), (.slice none 0 0)] 27 (0, 0))) ∧ zaa (Below w.heap.size w wc))
 case first =>
  have H := HC4.out
  clear HC4
  replace H := Option.bind_eq_some_iff.mp H
  obtain ⟨t193, A80, H⟩ := H
  replace H : (if t193 = 3 then (zav.j0 k a2 (a1_0 != 7) l0_0 a0_1 a0_2 a1_0 a1_1 a1_2 a1_3 l1_4) else (zav.j0 k a2 true l0_0 a0_1 a0_2 a1_0 a1_1 a1_2 a1_3 l1_4)) = some (r1, r2, r3, r4, r5) := H
  have A8 := zaa.mk A80
  clear A80
  by_cases c9 : t193 = 3
  ·
   rw [if_pos c9] at H
   have c9b0 : (t193 == 3) = true := beq_iff_eq.mpr c9
   have c9b1 : (t193 != 3) = false := bne_eq_false_iff_eq.mpr c9
   clear c9
   (first | rw [c9b0] | (simp only [i64_w, i32_w]; rw [c9b0]) | skip)
   have H' := zaa.mk H
   clear H
   go_wp2_with (first | ((with_reducible refine za4 (f := 51) rfl ?_); refine zbX (some 8) rfl rfl Try.func51 k9 rfl #[.string a2] rfl m9 ?_; (with_reducible refine (zb3.calls a2 t193 _ A8.out).mono ?_); rintro e w10 ⟨rfl, hb⟩; refine ⟨_, rfl, ?_⟩; replace BK190 := zaa.mk (zaq (bk BK190.out) hb); replace BK191 := zaa.mk (zaq (bk BK191.out) hb); replace BK192 := zaa.mk (zaq (bk BK192.out) hb); replace HB := zaa.mk (zan (bl HB.out) hb); (try clear hb); (try clear hb2); (try clear hk); (try clear hi); have hnb11 := NB191_190.out; have hnc11 := NB190_191.out; have hnb12 := NB191_192.out; have hnc12 := NB192_191.out; have hcz13_0 : w10.cell? ⟨gb191, 0, none⟩ = some (.int .i64 a1_0) := (zac BK191.out 0).trans rfl; have hcz13_1 : w10.cell? ⟨gb191, 1, none⟩ = some (.int .i64 a1_1) := (zac BK191.out 1).trans rfl; have hcz13_2 : w10.cell? ⟨gb191, 2, none⟩ = some (.int .u64 a1_2) := (zac BK191.out 2).trans rfl; have hcz13_3 : w10.cell? ⟨gb191, 3, none⟩ = some (.string a1_3) := (zac BK191.out 3).trans rfl; have hcz13_4 : w10.cell? ⟨gb191, 4, none⟩ = some (.slice A1_4 l1_4.length c1_4) := (zac BK191.out 4).trans rfl; have hfz13_0 := zab BK191.out 0; have hfz13_1 := zab BK191.out 1; have hfz13_2 := zab BK191.out 2; have hfz13_3 := zab BK191.out 3; have hfz13_4 := zab BK191.out 4))
   go_meet
   case rel => exact ⟨_, ((a1_0 != 7)), (by first | rfl | (simp; done) | (simp [*]; done)), H', ⟨by first | omega | exact Nat.le_refl _⟩, ⟨bk BK190.out⟩, ⟨bk BK191.out⟩, ⟨bk BK192.out⟩, ⟨bl HB.out⟩⟩
  ·
   rw [if_neg c9] at H
   have c9b0 : (t193 == 3) = false := beq_eq_false_iff_ne.mpr c9
   have c9b1 : (t193 != 3) = true := bne_iff_ne.mpr c9
   (first | rw [c9b0] | (simp only [i64_w, i32_w]; rw [c9b0]) | skip)
   have H' := zaa.mk H
   clear H
   go_wp2_with (first | ((with_reducible refine za4 (f := 51) rfl ?_); refine zbX (some 8) rfl rfl Try.func51 k9 rfl #[.string a2] rfl m9 ?_; (with_reducible refine (zb3.calls a2 t193 _ A8.out).mono ?_); rintro e w14 ⟨rfl, hb⟩; refine ⟨_, rfl, ?_⟩; replace BK190 := zaa.mk (zaq (bk BK190.out) hb); replace BK191 := zaa.mk (zaq (bk BK191.out) hb); replace BK192 := zaa.mk (zaq (bk BK192.out) hb); replace HB := zaa.mk (zan (bl HB.out) hb); (try clear hb); (try clear hb2); (try clear hk); (try clear hi)))
   go_meet
   case rel => exact ⟨_, (true), (by first | rfl | (simp; done) | (simp [*]; done)), H', ⟨by first | omega | exact Nat.le_refl _⟩, ⟨bk BK190.out⟩, ⟨bk BK191.out⟩, ⟨bk BK192.out⟩, ⟨bl HB.out⟩⟩
 case rest =>
  clear HC4
  try clear c1
  try clear p2
  try clear c3
  try clear c5
  try clear c9
  try clear c9b0
  try clear c9b1
  try clear c11
  try clear c12
  try clear hcz13_0
  try clear hcz13_1
  try clear hcz13_2
  try clear hcz13_3
  try clear hcz13_4
  try clear hfz13_0
  try clear hfz13_1
  try clear hfz13_2
  try clear hfz13_3
  try clear hfz13_4
  obtain ⟨kq, x14_3, rfl, HA, HJ3, BK190, BK191, BK192, HB⟩ := hcut
  cases kq with
  | zero => exact absurd HA.out (by simp [zav.j0])
  | succ kj3 =>
   have H := HA.out
   clear HA
   simp only [zav.j0] at H
   by_cases c15 : x14_3 = true
   ·
    subst c15
    have H1 : ((zaZ.f l1_4).bind fun t194 => (some (a1_0, a1_1, a1_2, a1_3, t194))) = some (r1, r2, r3, r4, r5) := by rw [if_pos rfl] at H; exact H
    clear H
    have H := H1
    clear H1
    replace H := Option.bind_eq_some_iff.mp H
    obtain ⟨t194, A160, H⟩ := H
    replace H : (some (a1_0, a1_1, a1_2, a1_3, t194)) = some (r1, r2, r3, r4, r5) := H
    have A16 := zaa.mk A160
    clear A160
    simp only [Option.some.injEq, Prod.mk.injEq] at H
    obtain ⟨rfl, rfl, rfl, rfl, rfl⟩ := H
    have hnb17 := NB191_190.out
    have hnc17 := NB190_191.out
    have hnb18 := NB191_192.out
    have hnc18 := NB192_191.out
    have hcz19_0 : wc.cell? ⟨gb191, 0, none⟩ = some (.int .i64 a1_0) := (zac BK191.out 0).trans rfl
    have hcz19_1 : wc.cell? ⟨gb191, 1, none⟩ = some (.int .i64 a1_1) := (zac BK191.out 1).trans rfl
    have hcz19_2 : wc.cell? ⟨gb191, 2, none⟩ = some (.int .u64 a1_2) := (zac BK191.out 2).trans rfl
    have hcz19_3 : wc.cell? ⟨gb191, 3, none⟩ = some (.string a1_3) := (zac BK191.out 3).trans rfl
    have hcz19_4 : wc.cell? ⟨gb191, 4, none⟩ = some (.slice A1_4 l1_4.length c1_4) := (zac BK191.out 4).trans rfl
    have hfz19_0 := zab BK191.out 0
    have hfz19_1 := zab BK191.out 1
    have hfz19_2 := zab BK191.out 2
    have hfz19_3 := zab BK191.out 3
    have hfz19_4 := zab BK191.out 4
    go_wp2_with (first | ((with_reducible refine za4 (f := 52) rfl ?_); refine zbX (some 17) rfl rfl Try.func52 k9 rfl #[.slice A1_4 l1_4.length c1_4] rfl m9 ?_; (with_reducible refine (zaZ.calls _ _ l1_4 t194 _ ?side1 ?side2 A16.out).mono ?_); (case side1 => repeat (first | exact (Kd.zat HR1_4.out HB.out) | (with_reducible refine Kd.zbr ?_ _) | (with_reducible refine Kd.zbx ?_ _) | (with_reducible refine Kd.zbu ?_))); (case side2 => exact HC1_4.out); rintro e w20 ⟨v195, rfl, ho0, hb⟩; refine ⟨_, rfl, ?_⟩; have HO196 := zaa.mk (Kd.zbi ho0 (zaO (bl HB.out))); replace BK190 := zaa.mk (zaq (bk BK190.out) hb); replace BK191 := zaa.mk (zaq (bk BK191.out) hb); replace BK192 := zaa.mk (zaq (bk BK192.out) hb); replace HB := zaa.mk (zan (bl HB.out) hb); (try clear hb); (try clear hb2); (try clear hk); (try clear hi); (try clear ho0); obtain ⟨Ao21, co21, eo21⟩ := Kd.zbj HO196.out; subst eo21; have hcz22_0 : w20.cell? ⟨gb191, 0, none⟩ = some (.int .i64 a1_0) := (zac BK191.out 0).trans rfl; have hcz22_1 : w20.cell? ⟨gb191, 1, none⟩ = some (.int .i64 a1_1) := (zac BK191.out 1).trans rfl; have hcz22_2 : w20.cell? ⟨gb191, 2, none⟩ = some (.int .u64 a1_2) := (zac BK191.out 2).trans rfl; have hcz22_3 : w20.cell? ⟨gb191, 3, none⟩ = some (.string a1_3) := (zac BK191.out 3).trans rfl; have hcz22_4 : w20.cell? ⟨gb191, 4, none⟩ = some (.slice A1_4 l1_4.length c1_4) := (zac BK191.out 4).trans rfl; have hfz22_0 := zab BK191.out 0; have hfz22_1 := zab BK191.out 1; have hfz22_2 := zab BK191.out 2; have hfz22_3 := zab BK191.out 3; have hfz22_4 := zab BK191.out 4; have hnb23 := NB192_190.out; have hnc23 := NB190_192.out; have hcz24_0 : w20.cell? ⟨gb192, 0, none⟩ = some (.int .i64 0) := (zac BK192.out 0).trans rfl; have hcz24_1 : w20.cell? ⟨gb192, 1, none⟩ = some (.int .i64 0) := (zac BK192.out 1).trans rfl; have hcz24_2 : w20.cell? ⟨gb192, 2, none⟩ = some (.int .u64 0) := (zac BK192.out 2).trans rfl; have hcz24_3 : w20.cell? ⟨gb192, 3, none⟩ = some (.string (⟨#[]⟩ : ByteArray)) := (zac BK192.out 3).trans rfl; have hcz24_4 : w20.cell? ⟨gb192, 4, none⟩ = some (.slice none 0 0) := (zac BK192.out 4).trans rfl; have hfz24_0 := zab BK192.out 0; have hfz24_1 := zab BK192.out 1; have hfz24_2 := zab BK192.out 2; have hfz24_3 := zab BK192.out 3; have hfz24_4 := zab BK192.out 4))
    refine bodyPost_ret (results_cell_row rfl _ _ gb192 27 #[.int .i64 a1_0, .int .i64 a1_1, .int .u64 a1_2, .string a1_3, .slice Ao21 t194.length co21] (0, 0) _ rfl (bp BK192.out) Try.underlying27 rfl k9) rfl ?_
    exact ⟨_, by first | rfl | (simp [zaz, zaA] <;> rfl) | (simp [*, zaz, zaA] <;> rfl), by (with_reducible repeat (first | apply Kd.zbt | apply Kd.zbA | apply Kd.zbN)); exact Kd.za0 (Kd.R_far (p := ⟨gb192, 4, none⟩) (Kd.R_far (p := ⟨gb192, 3, none⟩) (Kd.R_far (p := ⟨gb192, 2, none⟩) (Kd.R_far (p := ⟨gb192, 1, none⟩) (Kd.R_far (p := ⟨gb192, 0, none⟩) (Kd.R_far (p := ⟨gb191, 4, none⟩) (Kd.zbJ (Kd.zbJ HO196.out BK191.out d9) BK192.out d9) (fun _ hk => hk.1.2) (.slice Ao21 t194.length co21)) (fun _ hk => hk.2) (.int .i64 a1_0)) (fun _ hk => hk.2) (.int .i64 a1_1)) (fun _ hk => hk.2) (.int .u64 a1_2)) (fun _ hk => hk.2) (.string a1_3)) (fun _ hk => hk.2) (.slice Ao21 t194.length co21)) (fun _ hk => trivial), bl HB.out⟩
   ·
    replace c15 := Bool.eq_false_iff.mpr c15
    subst c15
    have H1 : ((zaM.f l0_0 a0_1 a0_2 a1_0 a1_1 a1_2 a1_3 l1_4 false a2).bind fun bt197 => (some (bt197.1, bt197.2.1, bt197.2.2.1, bt197.2.2.2.1, bt197.2.2.2.2))) = some (r1, r2, r3, r4, r5) := by rw [if_neg (show ¬ (false = true) by decide)] at H; exact H
    clear H
    have H := H1
    clear H1
    replace H := Option.bind_eq_some_iff.mp H
    obtain ⟨⟨t197, t198, t199, t200, t201⟩, A250, H⟩ := H
    replace H : (some (t197, t198, t199, t200, t201)) = some (r1, r2, r3, r4, r5) := H
    have A25 := zaa.mk A250
    clear A250
    simp only [Option.some.injEq, Prod.mk.injEq] at H
    obtain ⟨rfl, rfl, rfl, rfl, rfl⟩ := H
    have hnb26 := NB190_191.out
    have hnc26 := NB191_190.out
    have hnb27 := NB190_192.out
    have hnc27 := NB192_190.out
    have hcz28_0 : wc.cell? ⟨gb190, 0, none⟩ = some (.slice A0_0 l0_0.length c0_0) := (zac BK190.out 0).trans rfl
    have hcz28_1 : wc.cell? ⟨gb190, 1, none⟩ = some (.bool a0_1) := (zac BK190.out 1).trans rfl
    have hcz28_2 : wc.cell? ⟨gb190, 2, none⟩ = some (.int .i64 a0_2) := (zac BK190.out 2).trans rfl
    have hfz28_0 := zab BK190.out 0
    have hfz28_1 := zab BK190.out 1
    have hfz28_2 := zab BK190.out 2
    have hnb29 := NB191_192.out
    have hnc29 := NB192_191.out
    have hcz30_0 : wc.cell? ⟨gb191, 0, none⟩ = some (.int .i64 a1_0) := (zac BK191.out 0).trans rfl
    have hcz30_1 : wc.cell? ⟨gb191, 1, none⟩ = some (.int .i64 a1_1) := (zac BK191.out 1).trans rfl
    have hcz30_2 : wc.cell? ⟨gb191, 2, none⟩ = some (.int .u64 a1_2) := (zac BK191.out 2).trans rfl
    have hcz30_3 : wc.cell? ⟨gb191, 3, none⟩ = some (.string a1_3) := (zac BK191.out 3).trans rfl
    have hcz30_4 : wc.cell? ⟨gb191, 4, none⟩ = some (.slice A1_4 l1_4.length c1_4) := (zac BK191.out 4).trans rfl
    have hfz30_0 := zab BK191.out 0
    have hfz30_1 := zab BK191.out 1
    have hfz30_2 := zab BK191.out 2
    have hfz30_3 := zab BK191.out 3
    have hfz30_4 := zab BK191.out 4
    go_wp2_with (first | ((with_reducible refine za4 (f := 53) rfl ?_); refine zbX (some 23) rfl rfl Try.func53 k9 rfl #[.agg #[.slice A0_0 l0_0.length c0_0, .bool a0_1, .int .i64 a0_2], .agg #[.int .i64 a1_0, .int .i64 a1_1, .int .u64 a1_2, .string a1_3, .slice A1_4 l1_4.length c1_4], .bool false, .string a2] rfl m9 ?_; (with_reducible refine (zaM.calls _ _ l0_0 a0_1 a0_2 a1_0 a1_1 a1_2 a1_3 _ _ l1_4 false a2 t197 t198 t199 t200 t201 _ ?side1 ?side2 ?side3 ?side4 A25.out).mono ?_); (case side1 => repeat (first | exact (Kd.zat HR0_0.out HB.out) | (with_reducible refine Kd.zbr ?_ _) | (with_reducible refine Kd.zbx ?_ _) | (with_reducible refine Kd.zbu ?_))); (case side2 => exact HC0_0.out); (case side3 => repeat (first | exact (Kd.zat HR1_4.out HB.out) | (with_reducible refine Kd.zbr ?_ _) | (with_reducible refine Kd.zbx ?_ _) | (with_reducible refine Kd.zbu ?_))); (case side4 => exact HC1_4.out); rintro e w31 ⟨v202, rfl, ho0, hb⟩; refine ⟨_, rfl, ?_⟩; have HO203 := zaa.mk (Kd.zbi ho0 (zaO (bl HB.out))); replace BK190 := zaa.mk (zaq (bk BK190.out) hb); replace BK191 := zaa.mk (zaq (bk BK191.out) hb); replace BK192 := zaa.mk (zaq (bk BK192.out) hb); replace HB := zaa.mk (zan (bl HB.out) hb); (try clear hb); (try clear hb2); (try clear hk); (try clear hi); (try clear ho0); have hcz32_0 : w31.cell? ⟨gb192, 0, none⟩ = some (.int .i64 0) := (zac BK192.out 0).trans rfl; have hcz32_1 : w31.cell? ⟨gb192, 1, none⟩ = some (.int .i64 0) := (zac BK192.out 1).trans rfl; have hcz32_2 : w31.cell? ⟨gb192, 2, none⟩ = some (.int .u64 0) := (zac BK192.out 2).trans rfl; have hcz32_3 : w31.cell? ⟨gb192, 3, none⟩ = some (.string (⟨#[]⟩ : ByteArray)) := (zac BK192.out 3).trans rfl; have hcz32_4 : w31.cell? ⟨gb192, 4, none⟩ = some (.slice none 0 0) := (zac BK192.out 4).trans rfl; have hfz32_0 := zab BK192.out 0; have hfz32_1 := zab BK192.out 1; have hfz32_2 := zab BK192.out 2; have hfz32_3 := zab BK192.out 3; have hfz32_4 := zab BK192.out 4; obtain ⟨Ao33, co33, eo33⟩ := Kd.zbj HO203.out; subst eo33))
    refine bodyPost_ret (results_cell_row rfl _ _ gb192 27 #[.int .i64 t197, .int .i64 t198, .int .u64 t199, .string t200, .slice Ao33 t201.length co33] (0, 0) _ rfl (bp BK192.out) Try.underlying27 rfl k9) rfl ?_
    exact ⟨_, by first | rfl | (simp [zaz, zaA] <;> rfl) | (simp [*, zaz, zaA] <;> rfl), by (with_reducible repeat (first | apply Kd.zbt | apply Kd.zbA | apply Kd.zbN)); exact Kd.za0 (Kd.R_far (p := ⟨gb192, 4, none⟩) (Kd.R_far (p := ⟨gb192, 3, none⟩) (Kd.R_far (p := ⟨gb192, 2, none⟩) (Kd.R_far (p := ⟨gb192, 1, none⟩) (Kd.R_far (p := ⟨gb192, 0, none⟩) (Kd.zbJ HO203.out BK192.out d9) (fun _ hk => hk.2) (.int .i64 t197)) (fun _ hk => hk.2) (.int .i64 t198)) (fun _ hk => hk.2) (.int .u64 t199)) (fun _ hk => hk.2) (.string t200)) (fun _ hk => hk.2) (.slice Ao33 t201.length co33)) (fun _ hk => trivial), bl HB.out⟩
mutual
def zay.l0 : Nat → List (S64) → ByteArray → List (S33) → List (S58) → Int → Int → Option ((List (S33)))
 | 0, _, _, _, _, _, _ => none
 | k + 1, x0, x1, x4, x11, x12, x13 => if x13 < x12 then (if 0 ≤ x13 then (if x13 < (x11.length : Int) then (if x4.length < 5864062014805 then (zay.l0 k x0 x1 (x4 ++ [(⟨(zbG x11 x13).f0, (-1)⟩ : S33)]) x11 x12 (wrap64 (x13 + 1))) else (none)) else (none)) else (none)) else ((zaY.f x0 x1).bind fun t126 => (zay.l1 k x4 t126 (t126.length : Int) 0))
def zay.l1 : Nat → List (S33) → List (S61) → Int → Int → Option ((List (S33)))
 | 0, _, _, _, _ => none
 | k + 1, x4, x26, x27, x28 => if x28 < x27 then (if 0 ≤ x28 then (if x28 < (x26.length : Int) then (if x4.length < 5864062014805 then (zay.l1 k (x4 ++ [(⟨(za6 x26 x28).f0, (((za6 x26 x28).f1).length : Int)⟩ : S33)]) x26 x27 (wrap64 (x28 + 1))) else (none)) else (none)) else (none)) else (some x4)
end
def zay.f (k : Nat) (l0 : List (S64)) (a1 : ByteArray) : Option ((List (S33))) := (zbZ.f l0 a1).bind fun t118 => (zay.l0 k l0 a1 ([] : List (S33)) t118 (t118.length : Int) 0)
theorem zay.zbM : ∀ k, (∀ y0 y1 y2 y3 y4 y5, LeO (zay.l0 k y0 y1 y2 y3 y4 y5) (zay.l0 (k + 1) y0 y1 y2 y3 y4 y5)) ∧ (∀ y0 y1 y2 y3, LeO (zay.l1 k y0 y1 y2 y3) (zay.l1 (k + 1) y0 y1 y2 y3))
 | 0 => ⟨fun _ _ _ _ _ _ r h => by simp [zay.l0] at h, fun _ _ _ _ r h => by simp [zay.l1] at h⟩
 | k + 1 => by
  obtain ⟨ih0, ih1⟩ := zay.zbM k
  refine ⟨?_, ?_⟩
  ·
   intro y0 y1 y2 y3 y4 y5
   unfold zay.l0
   repeat' first
   | (with_reducible exact ih0 _ _ _ _ _ _)
   | (with_reducible exact ih1 _ _ _ _)
   | (with_reducible exact LeO.refl _)
   | (with_reducible exact LeO.none _)
   | (with_reducible refine LeO.ite ?_ ?_)
   | (with_reducible refine LeO.bind ?_ (fun _ => ?_))
   | exact ih0 _ _ _ _ _ _
   | exact ih1 _ _ _ _
   | exact LeO.none _
   | refine LeO.ite ?_ ?_
   | refine LeO.bind ?_ (fun _ => ?_)
  ·
   intro y0 y1 y2 y3
   unfold zay.l1
   repeat' first
   | (with_reducible exact ih0 _ _ _ _ _ _)
   | (with_reducible exact ih1 _ _ _ _)
   | (with_reducible exact LeO.refl _)
   | (with_reducible exact LeO.none _)
   | (with_reducible refine LeO.ite ?_ ?_)
   | (with_reducible refine LeO.bind ?_ (fun _ => ?_))
   | exact ih0 _ _ _ _ _ _
   | exact ih1 _ _ _ _
   | exact LeO.none _
   | refine LeO.ite ?_ ?_
   | refine LeO.bind ?_ (fun _ => ?_)
theorem zay.mono : ∀ a0 a1 k, LeO (zay.f k a0 a1) (zay.f (k + 1) a0 a1) := by
 intro a0 a1 k
 obtain ⟨ih0, ih1⟩ := zay.zbM k
 unfold zay.f
 repeat' first
   | (with_reducible exact ih0 _ _ _ _ _ _)
   | (with_reducible exact ih1 _ _ _ _)
   | (with_reducible exact LeO.refl _)
   | (with_reducible exact LeO.none _)
   | (with_reducible refine LeO.ite ?_ ?_)
   | (with_reducible refine LeO.bind ?_ (fun _ => ?_))
   | exact ih0 _ _ _ _ _ _
   | exact ih1 _ _ _ _
   | exact LeO.none _
   | refine LeO.ite ?_ ?_
   | refine LeO.bind ?_ (fun _ => ?_)
theorem zay.calls (k : Nat) (A0 : Option Addr) (c0 : Nat) (l0 : List (S64)) (a1 : ByteArray) (r : List (S33)) (w : World) (hr0 : Kd.C k64 w A0 l0.length l0) (hc0 : l0.length ≤ c0) (h : zay.f k l0 a1 = some r) :
  Calls Try.prog 28 #[.slice A0 l0.length c0, .string a1] w fun e w' => ∃ v0_ : Value, e = .returned (v0_) ∧ Kd.R k33 33 w' w.heap.size (fun _ => True) v0_ r ∧ Below w.heap.size w w' := by
 have hu58 := Try.underlying58
 have hu33 := Try.underlying33
 have hu61 := Try.underlying61
 have HR0 := zaa.mk hr0
 have HC0 := zaa.mk hc0
 clear hr0 hc0
 have HB := zaa.mk (Below.refl w.heap.size w)
 have H : ((zbZ.f l0 a1).bind fun t118 => (zay.l0 k l0 a1 ([] : List (S33)) t118 (t118.length : Int) 0)) = some r := h
 clear h
 replace H := Option.bind_eq_some_iff.mp H
 obtain ⟨t118, A30, H⟩ := H
 replace H : (zay.l0 k l0 a1 ([] : List (S33)) t118 (t118.length : Int) 0) = some r := H
 have A3 := zaa.mk A30
 clear A30
 have H' := zaa.mk H
 clear H
 go_enter Try.func28, Try.ntmps28
 go_wp2_with (first | ((with_reducible refine za4 (f := 42) rfl ?_); refine zbX (some 11) rfl rfl Try.func42 k9 rfl #[.slice A0 l0.length c0, .string a1] rfl m9 ?_; (with_reducible refine (zbZ.calls _ _ l0 a1 t118 _ ?side1 ?side2 A3.out).mono ?_); (case side1 => repeat (first | exact HR0.out | (with_reducible refine Kd.zbr ?_ _) | (with_reducible refine Kd.zbx ?_ _) | (with_reducible refine Kd.zbu ?_))); (case side2 => exact HC0.out); rintro e w4 ⟨v119, rfl, ho0, hb⟩; refine ⟨_, rfl, ?_⟩; have HO120 := zaa.mk (Kd.zbi ho0 (zaO (bl HB.out))); replace HB := zaa.mk (zan (bl HB.out) hb); (try clear hb); (try clear hb2); (try clear hk); (try clear hi); (try clear ho0); obtain ⟨Ao5, co5, eo5⟩ := Kd.zbj HO120.out; subst eo5))
 go_loopg [4, 13] k (fun kq v4 v13 w' => ∃ (x4_1 : List (S33)) (x13_1 : Int), v13 = .int .i64 x13_1 ∧ zaa (zay.l0 kq l0 a1 x4_1 t118 (t118.length : Int) x13_1 = some r) ∧ zaa (kq ≤ k) ∧ zaa (Kd.R k33 33 w' w.heap.size (fun _ => True) v4 x4_1) ∧ zaa (Kd.R k58 58 w' w.heap.size (fun _ => True) (.slice Ao5 t118.length co5) t118) ∧ zaa (Below w.heap.size w w'))
 case atStart => exact ⟨(([] : List (S33))), (0), (by first | rfl | (simp; done) | (simp [*]; done)), H', ⟨Nat.le_refl _⟩, ⟨by first | exact Kd.R_nil _ _ _ _ _ | exact Kd.N_nil _ _ _ _ _ | exact Kd.V_nil _ _ _ _ _ | exact Kd.Q_nil _ _ _ _ _ | exact Kd.S_nil _ _ _ _ _⟩, ⟨rk HO120.out⟩, ⟨bl HB.out⟩⟩
 case round =>
  clear H'
  try clear c2
  try clear p2
  try clear c4
  obtain ⟨x4_1, x13_1, rfl, HA, HK1, HO_4, HO_11, HB⟩ := hrel
  cases gk with
  | zero => exact absurd HA.out (by simp [zay.l0])
  | succ k1 =>
   have H := HA.out
   clear HA
   simp only [zay.l0] at H
   by_cases c6 : x13_1 < (t118.length : Int)
   ·
    rw [if_pos c6] at H
    have c6b0 : decide (x13_1 < (t118.length : Int)) = true := decide_eq_true c6
    clear c6
    by_cases c7 : 0 ≤ x13_1
    ·
     rw [if_pos c7] at H
     have c7b0 : decide (0 ≤ x13_1) = true := decide_eq_true c7
     clear c7
     by_cases c8 : x13_1 < (t118.length : Int)
     ·
      rw [if_pos c8] at H
      have c8b0 : decide (x13_1 < (t118.length : Int)) = true := decide_eq_true c8
      clear c8
      by_cases c9 : x4_1.length < 5864062014805
      ·
       rw [if_pos c9] at H
       have LMc9 := zaa.mk c9
       clear c9
       obtain ⟨y123, hy123⟩ : ∃ y_ : List (S33), y_ = (x4_1 ++ [(⟨(zbG t118 x13_1).f0, (-1)⟩ : S33)]) := ⟨_, rfl⟩
       replace H : (zay.l0 k1 l0 a1 y123 t118 (t118.length : Int) (wrap64 (x13_1 + 1))) = some r := by first | (rw [hy123]; with_reducible exact H) | (have H2_ := (Option.bind_some _ _).symm.trans H; rw [hy123]; with_reducible exact H2_) | (have H2_ := (Option.bind_some _ _).symm.trans H; with_reducible exact H2_) | with_reducible exact H | (rw [hy123]; exact H) | exact H
       have Ny123 := zaa.mk hy123
       clear hy123
       have H' := zaa.mk H
       clear H
       have p121 : 0 ≤ (x13_1 : Int) := of_decide_eq_true (by first | (with_reducible assumption) | assumption)
       have q121 : x13_1 < (t118.length : Int) := of_decide_eq_true (by first | (with_reducible assumption) | assumption)
       obtain ⟨ad121, e121, hx121_0, hx121_1⟩ := zdS (Kd.zbn HO_11.out).2.2 x13_1 p121 q121
       cases e121
       replace p121 := eq_true p121
       replace q121 := eq_true q121
       go_wp2_with (first | ((with_reducible refine zaL (N := 6) rfl ?_); refine zbq (N := 6) (cs := #[.string (⟨#[]⟩ : ByteArray), .string (⟨#[]⟩ : ByteArray)]) (t := 58) ?_; intro gb122 hg w10 hbox hb; have BK122 := zaa.mk (hbox); have GW122 := zaa.mk (gw hg (bl HB.out) : w.heap.size ≤ gb122); have GE122 := GW122; replace HO_4 := zaa.mk (Kd.zbC (rk HO_4.out) hb); replace HO_11 := zaa.mk (Kd.zbC (Kd.zjV (rk HO_11.out) gb122 (Nat.le_of_eq hg.symm)) hb); replace HB := zaa.mk (zan (bl HB.out) hb); clear hb hbox hg; have hcz11_0 : w10.cell? ⟨gb122, 0, none⟩ = some (.string (⟨#[]⟩ : ByteArray)) := (zac BK122.out 0).trans rfl; have hcz11_1 : w10.cell? ⟨gb122, 1, none⟩ = some (.string (⟨#[]⟩ : ByteArray)) := (zac BK122.out 1).trans rfl; have hfz11_0 := zab BK122.out 0; have hfz11_1 := zab BK122.out 1) | ((with_reducible refine zbS (b := .append) (xs := #[.tmp 17, .tmp 21]) rfl ?_); at_builtin; refine Kd.zdm k33 (w0 := w) w.heap.size rfl (.tmp 17) (.tmp 21) 29 33 (.agg #[(.string ⟨#[]⟩), (.int .i64 0)]) 24 rfl Try.underlying29 zkN rfl d9 o9 u4 x4_1 (⟨(zbG t118 x13_1).f0, (-1)⟩ : S33) [.string ((zbG t118 x13_1).f0), .int .i64 (-1)] (fun _ => True) (fun _ => False) rfl (by first | (go_simp; done) | (go_simp; rfl)) ?aP (fun _ hk => hk.elim) ?aF ?aO ?aB ?aS ?aL ?_; (case aP => exact zd9 _ _ _ (⟨(zbG t118 x13_1).f0, (-1)⟩ : S33)); (case aB => exact (bl HB.out)); (case aF => exact (fun _ _ => trivial)); (case aO => exact (by (with_reducible repeat (first | apply Kd.zbt | apply Kd.zbA | apply Kd.zbN)); exact Kd.za0 (Kd.R_far (p := ⟨gb122, 1, none⟩) (Kd.R_far (p := ⟨gb122, 0, none⟩) (Kd.zbJ HO_4.out BK122.out d9) (fun _ hk => hk.2) (.string ((zbG t118 x13_1).f0))) (fun _ hk => hk.2) (.string ((zbG t118 x13_1).f1))) (fun _ hk => trivial))); (case aS => exact (zaO (bl HB.out))); (case aL => have := LMc9.out; omega); intro v124 w12 ho hb hg hat; rw [← Ny123.out] at ho; have HO125 := zaa.mk (ho); replace HO_11 := zaa.mk (Kd.zg2 (by (with_reducible repeat (first | apply Kd.zbt | apply Kd.zbA | apply Kd.zbN)); exact (Kd.za0 (Kd.R_far (p := ⟨gb122, 1, none⟩) (Kd.R_far (p := ⟨gb122, 0, none⟩) (Kd.za0 HO_11.out (fun k_ hk => (⟨hk, hk.2⟩ : _ ∧ k_ ≠ gb122))) (fun _ hk => hk.2) (.string ((zbG t118 x13_1).f0))) (fun _ hk => hk.2) (.string ((zbG t118 x13_1).f1))) (fun _ h_ => h_.1))) (Kd.zd7 (by (with_reducible repeat (first | apply Kd.zbt | apply Kd.zbA | apply Kd.zbN)); exact (Kd.za0 (Kd.R_far (p := ⟨gb122, 1, none⟩) (Kd.R_far (p := ⟨gb122, 0, none⟩) (Kd.zbJ HO_4.out BK122.out d9) (fun _ hk => hk.2) (.string ((zbG t118 x13_1).f0))) (fun _ hk => hk.2) (.string ((zbG t118 x13_1).f1))) (fun _ h_ => h_.1)))) d9 hg); replace BK122 := zaa.mk (zcD (g := gb122) (o := .cells #[.string ((zbG t118 x13_1).f0), .string ((zbG t118 x13_1).f1)] 58 (0, 0)) (bp BK122.out) hg (Kd.R_ne HO_4.out BK122.out d9)); replace HB := zaa.mk (hb); clear HO_4; clear ho hb hg hat))
       go_roundg k1
       case measure => have := HK1.out; omega
       case rel => exact ⟨(y123), (wrap64 (x13_1 + 1)), (by first | rfl | (simp; done) | (simp [*]; done)), H', ⟨by have := HK1.out; omega⟩, ⟨rk HO125.out⟩, ⟨by (with_reducible repeat (first | apply Kd.zbt | apply Kd.zbA | apply Kd.zbN)); exact Kd.za0 HO_11.out (fun _ hk => trivial)⟩, ⟨bl HB.out⟩⟩
      ·
       rw [if_neg c9] at H
       exact absurd H s9
     ·
      rw [if_neg c8] at H
      exact absurd H s9
    ·
     rw [if_neg c7] at H
     exact absurd H s9
   ·
    rw [if_neg c6] at H
    have c6b0 : decide (x13_1 < (t118.length : Int)) = false := decide_eq_false c6
    clear c6
    replace H := Option.bind_eq_some_iff.mp H
    obtain ⟨t126, A130, H⟩ := H
    replace H : (zay.l1 k1 x4_1 t126 (t126.length : Int) 0) = some r := H
    have A13 := zaa.mk A130
    clear A130
    have H' := zaa.mk H
    clear H
    go_wp2_with (first | ((with_reducible refine za4 (f := 43) rfl ?_); refine zbX (some 26) rfl rfl Try.func43 k9 rfl #[.slice A0 l0.length c0, .string a1] rfl m9 ?_; (with_reducible refine (zaY.calls _ _ l0 a1 t126 _ ?side1 ?side2 A13.out).mono ?_); (case side1 => repeat (first | exact (Kd.zat HR0.out HB.out) | (with_reducible refine Kd.zbr ?_ _) | (with_reducible refine Kd.zbx ?_ _) | (with_reducible refine Kd.zbu ?_))); (case side2 => exact HC0.out); rintro e w14 ⟨v127, rfl, ho0, hb⟩; refine ⟨_, rfl, ?_⟩; have HO128 := zaa.mk (Kd.zjE (Kd.zlC ho0 (Kd.R_lt (rk HO_11.out))) (zaO (bl HB.out))); replace HO_4 := zaa.mk (Kd.zbC (rk HO_4.out) hb); replace HO_11 := zaa.mk (Kd.zbC (rk HO_11.out) hb); replace HB := zaa.mk (zan (bl HB.out) hb); (try clear hb); (try clear hb2); (try clear hk); (try clear hi); (try clear ho0); obtain ⟨Ao15, co15, eo15⟩ := Kd.zgT HO128.out; subst eo15))
    go_loopg [4, 28] k1 (fun kq v4 v28 w' => ∃ (x4_2 : List (S33)) (x28_2 : Int), v28 = .int .i64 x28_2 ∧ zaa (zay.l1 kq x4_2 t126 (t126.length : Int) x28_2 = some r) ∧ zaa (kq ≤ k1) ∧ zaa (Kd.R k33 33 w' w.heap.size (fun _ => True) v4 x4_2) ∧ zaa (Kd.S k61 61 w' w.heap.size (fun _ => True) (.slice Ao15 t126.length co15) t126) ∧ zaa (Below w.heap.size w w'))
    case atStart => exact ⟨(x4_1), (0), (by first | rfl | (simp; done) | (simp [*]; done)), H', ⟨Nat.le_refl _⟩, ⟨rk HO_4.out⟩, ⟨by (with_reducible repeat (first | apply Kd.zfO | apply Kd.zfP | apply Kd.zhP)); exact Kd.zeY HO128.out (fun _ hk => trivial)⟩, ⟨bl HB.out⟩⟩
    case round =>
     clear H'
     try clear p1
     try clear q1
     try clear hx1
     try clear c2
     try clear p2
     try clear c4
     try clear c6
     try clear c6b0
     try clear p6
     try clear c7
     try clear c7b0
     try clear c8
     try clear c8b0
     try clear c9
     try clear p12
     try clear q12
     try clear hx12
     try clear hcz11_0
     try clear hcz11_1
     try clear hfz11_0
     try clear hfz11_1
     try clear hx121_0
     try clear hx121_1
     try clear p121
     try clear p2
     try clear q121
     obtain ⟨x4_2, x28_2, rfl, HA, HK2, HO_4, HO_26, HB⟩ := hrel
     cases gk with
     | zero => exact absurd HA.out (by simp [zay.l1])
     | succ k2 =>
      have H := HA.out
      clear HA
      simp only [zay.l1] at H
      by_cases c16 : x28_2 < (t126.length : Int)
      ·
       rw [if_pos c16] at H
       have c16b0 : decide (x28_2 < (t126.length : Int)) = true := decide_eq_true c16
       clear c16
       by_cases c17 : 0 ≤ x28_2
       ·
        rw [if_pos c17] at H
        have c17b0 : decide (0 ≤ x28_2) = true := decide_eq_true c17
        clear c17
        by_cases c18 : x28_2 < (t126.length : Int)
        ·
         rw [if_pos c18] at H
         have c18b0 : decide (x28_2 < (t126.length : Int)) = true := decide_eq_true c18
         clear c18
         by_cases c19 : x4_2.length < 5864062014805
         ·
          rw [if_pos c19] at H
          have LMc19 := zaa.mk c19
          clear c19
          obtain ⟨y131, hy131⟩ : ∃ y_ : List (S33), y_ = (x4_2 ++ [(⟨(za6 t126 x28_2).f0, (((za6 t126 x28_2).f1).length : Int)⟩ : S33)]) := ⟨_, rfl⟩
          replace H : (zay.l1 k2 y131 t126 (t126.length : Int) (wrap64 (x28_2 + 1))) = some r := by first | (rw [hy131]; with_reducible exact H) | (have H2_ := (Option.bind_some _ _).symm.trans H; rw [hy131]; with_reducible exact H2_) | (have H2_ := (Option.bind_some _ _).symm.trans H; with_reducible exact H2_) | with_reducible exact H | (rw [hy131]; exact H) | exact H
          have Ny131 := zaa.mk hy131
          clear hy131
          have H' := zaa.mk H
          clear H
          have p129 : 0 ≤ (x28_2 : Int) := of_decide_eq_true (by first | (with_reducible assumption) | assumption)
          have q129 : x28_2 < (t126.length : Int) := of_decide_eq_true (by first | (with_reducible assumption) | assumption)
          obtain ⟨ad129, A129_1, c129_1, e129, hx129_0, hx129_1, hx129_2, hl129_1, hi129_1⟩ := zdM (Kd.zhF HO_26.out).2.2 x28_2 p129 q129
          cases e129
          obtain ⟨ce129, hce129, hMe129, hcc129⟩ := Kd.S_get HO_26.out z61 x28_2 p129 (by first | exact q129 | exact of_decide_eq_true (by first | (with_reducible assumption) | assumption) | (have e_ := (Kd.zhF HO_26.out).1; omega))
          obtain ⟨ve129_1, rfl, ge129_1⟩ := zix hMe129
          have hv129_1 := hcc129 1 _ rfl
          rw [zcb _ _ 1 o9] at hv129_1
          replace hv129_1 := Option.some.inj (hv129_1.symm.trans hx129_1)
          rw [hv129_1] at ge129_1
          have HL129_1 := zaa.mk (show Kd.R k58 58 _ _ _ _ ((za6 t126 x28_2).f1) from ge129_1)
          clear hv129_1 ge129_1
          clear hcc129 hce129
          have HR129_1 := zaa.mk hi129_1
          have HC129_1 := zaa.mk hl129_1
          clear hi129_1 hl129_1
          replace p129 := eq_true p129
          replace q129 := eq_true q129
          go_wp2_with (first | ((with_reducible refine zaL (N := 8) rfl ?_); refine zbq (N := 8) (cs := #[.string (⟨#[]⟩ : ByteArray), .slice none 0 0, .string (⟨#[]⟩ : ByteArray)]) (t := 61) ?_; intro gb130 hg w20 hbox hb; have BK130 := zaa.mk (hbox); have GW130 := zaa.mk (gw hg (bl HB.out) : w.heap.size ≤ gb130); have GE130 := GW130; replace HO_4 := zaa.mk (Kd.zbC (rk HO_4.out) hb); replace HO_26 := zaa.mk (Kd.zfH (Kd.zkg (by (with_reducible repeat (first | apply Kd.zfO | apply Kd.zfP | apply Kd.zhP)); exact HO_26.out) gb130 (Nat.le_of_eq hg.symm)) hb); replace HL129_1 := zaa.mk (Kd.zbC (rk HL129_1.out) hb); replace HR129_1 := zaa.mk (Kd.zat (by repeat (first | (with_reducible exact HR129_1.out) | (with_reducible refine Kd.zbr ?_ _) | (with_reducible refine Kd.zbx ?_ _) | (with_reducible refine Kd.zbu ?_) | exact HR129_1.out)) hb); replace HB := zaa.mk (zan (bl HB.out) hb); clear hb hbox hg; have hcz21_0 : w20.cell? ⟨gb130, 0, none⟩ = some (.string (⟨#[]⟩ : ByteArray)) := (zac BK130.out 0).trans rfl; have hcz21_1 : w20.cell? ⟨gb130, 1, none⟩ = some (.slice none 0 0) := (zac BK130.out 1).trans rfl; have hcz21_2 : w20.cell? ⟨gb130, 2, none⟩ = some (.string (⟨#[]⟩ : ByteArray)) := (zac BK130.out 2).trans rfl; have hfz21_0 := zab BK130.out 0; have hfz21_1 := zab BK130.out 1; have hfz21_2 := zab BK130.out 2) | ((with_reducible refine zbS (b := .append) (xs := #[.tmp 32, .tmp 39]) rfl ?_); at_builtin; refine Kd.zdm k33 (w0 := w) w.heap.size rfl (.tmp 32) (.tmp 39) 29 33 (.agg #[(.string ⟨#[]⟩), (.int .i64 0)]) 24 rfl Try.underlying29 zkN rfl d9 o9 u4 x4_2 (⟨(za6 t126 x28_2).f0, (((za6 t126 x28_2).f1).length : Int)⟩ : S33) [.string ((za6 t126 x28_2).f0), .int .i64 (((za6 t126 x28_2).f1).length : Int)] (fun _ => True) (fun _ => False) rfl (by first | (go_simp; done) | (go_simp; rfl)) ?aP (fun _ hk => hk.elim) ?aF ?aO ?aB ?aS ?aL ?_; (case aP => exact zd9 _ _ _ (⟨(za6 t126 x28_2).f0, (((za6 t126 x28_2).f1).length : Int)⟩ : S33)); (case aB => exact (bl HB.out)); (case aF => exact (fun _ _ => trivial)); (case aO => exact (by (with_reducible repeat (first | apply Kd.zbt | apply Kd.zbA | apply Kd.zbN)); exact Kd.za0 (Kd.R_far (p := ⟨gb130, 2, none⟩) (Kd.R_far (p := ⟨gb130, 1, none⟩) (Kd.R_far (p := ⟨gb130, 0, none⟩) (Kd.zbJ HO_4.out BK130.out d9) (fun _ hk => hk.2) (.string ((za6 t126 x28_2).f0))) (fun _ hk => hk.2) (.slice A129_1 ((za6 t126 x28_2).f1).length c129_1)) (fun _ hk => hk.2) (.string ((za6 t126 x28_2).f2))) (fun _ hk => trivial))); (case aS => exact (zaO (bl HB.out))); (case aL => have := LMc19.out; omega); intro v132 w22 ho hb hg hat; rw [← Ny131.out] at ho; have HO133 := zaa.mk (ho); replace HO_26 := zaa.mk (Kd.zkV (by (with_reducible repeat (first | apply Kd.zfO | apply Kd.zfP | apply Kd.zhP)); exact (Kd.zeY (Kd.S_far (p := ⟨gb130, 2, none⟩) (Kd.S_far (p := ⟨gb130, 1, none⟩) (Kd.S_far (p := ⟨gb130, 0, none⟩) (Kd.zeY HO_26.out (fun k_ hk => (⟨hk, hk.2⟩ : _ ∧ k_ ≠ gb130))) (fun _ hk => hk.2) (.string ((za6 t126 x28_2).f0))) (fun _ hk => hk.2) (.slice A129_1 ((za6 t126 x28_2).f1).length c129_1)) (fun _ hk => hk.2) (.string ((za6 t126 x28_2).f2))) (fun _ h_ => h_.1))) (Kd.zd7 (by (with_reducible repeat (first | apply Kd.zbt | apply Kd.zbA | apply Kd.zbN)); exact (Kd.za0 (Kd.R_far (p := ⟨gb130, 2, none⟩) (Kd.R_far (p := ⟨gb130, 1, none⟩) (Kd.R_far (p := ⟨gb130, 0, none⟩) (Kd.zbJ HO_4.out BK130.out d9) (fun _ hk => hk.2) (.string ((za6 t126 x28_2).f0))) (fun _ hk => hk.2) (.slice A129_1 ((za6 t126 x28_2).f1).length c129_1)) (fun _ hk => hk.2) (.string ((za6 t126 x28_2).f2))) (fun _ h_ => h_.1)))) d9 hg); replace HL129_1 := zaa.mk (Kd.zg2 (by (with_reducible repeat (first | apply Kd.zbt | apply Kd.zbA | apply Kd.zbN)); exact (Kd.za0 (Kd.R_far (p := ⟨gb130, 2, none⟩) (Kd.R_far (p := ⟨gb130, 1, none⟩) (Kd.R_far (p := ⟨gb130, 0, none⟩) (Kd.zbJ HL129_1.out BK130.out d9) (fun _ hk => hk.2) (.string ((za6 t126 x28_2).f0))) (fun _ hk => hk.2) (.slice A129_1 ((za6 t126 x28_2).f1).length c129_1)) (fun _ hk => hk.2) (.string ((za6 t126 x28_2).f2))) (fun _ h_ => h_.1))) (Kd.zd7 (by (with_reducible repeat (first | apply Kd.zbt | apply Kd.zbA | apply Kd.zbN)); exact (Kd.za0 (Kd.R_far (p := ⟨gb130, 2, none⟩) (Kd.R_far (p := ⟨gb130, 1, none⟩) (Kd.R_far (p := ⟨gb130, 0, none⟩) (Kd.zbJ HO_4.out BK130.out d9) (fun _ hk => hk.2) (.string ((za6 t126 x28_2).f0))) (fun _ hk => hk.2) (.slice A129_1 ((za6 t126 x28_2).f1).length c129_1)) (fun _ hk => hk.2) (.string ((za6 t126 x28_2).f2))) (fun _ h_ => h_.1)))) d9 hg); replace BK130 := zaa.mk (zcD (g := gb130) (o := .cells #[.string ((za6 t126 x28_2).f0), .slice A129_1 ((za6 t126 x28_2).f1).length c129_1, .string ((za6 t126 x28_2).f2)] 61 (0, 0)) (bp BK130.out) hg (Kd.R_ne HO_4.out BK130.out d9)); replace HB := zaa.mk (hb); clear HO_4; clear ho hb hg hat))
          go_roundg k2
          case measure => have := HK1.out; have := HK2.out; omega
          case rel => exact ⟨(y131), (wrap64 (x28_2 + 1)), (by first | rfl | (simp; done) | (simp [*]; done)), H', ⟨by have := HK1.out; have := HK2.out; omega⟩, ⟨rk HO133.out⟩, ⟨by (with_reducible repeat (first | apply Kd.zfO | apply Kd.zfP | apply Kd.zhP)); exact Kd.zeY HO_26.out (fun _ hk => trivial)⟩, ⟨bl HB.out⟩⟩
         ·
          rw [if_neg c19] at H
          exact absurd H s9
        ·
         rw [if_neg c18] at H
         exact absurd H s9
       ·
        rw [if_neg c17] at H
        exact absurd H s9
      ·
       rw [if_neg c16] at H
       have c16b0 : decide (x28_2 < (t126.length : Int)) = false := decide_eq_false c16
       clear c16
       obtain rfl := Option.some.inj H
       go_wp2
       go_ret
       exact ⟨_, by first | rfl | (simp [zaz, zaA] <;> rfl) | (simp [*, zaz, zaA] <;> rfl), rk HO_4.out, bl HB.out⟩
def zaB.idx (s : ByteArray) : List ByteArray → Nat → Int
 | [], _ => -1
 | x :: r, i => if s.toList = x.toList then (i : Int) else zaB.idx s r (i + 1)
def zaB.f (l0 : List ByteArray) (a1 : ByteArray) : Option Int := if l0.length < 4398046511104 then some (zaB.idx a1 l0 0) else none
theorem zaB.zlY (s : ByteArray) (l : List ByteArray) (i : Nat) (h : i < l.length) : zaB.idx s (l.drop i) i = if s.toList = (rdOf ByteArray.empty l (i : Int)).toList then (i : Int) else zaB.idx s (l.drop (i + 1)) (i + 1) := by
 rw [List.drop_eq_getElem_cons h]
 unfold rdOf
 rw [Int.toNat_natCast, List.getD_eq_getElem?_getD, List.getElem?_eq_getElem h]; rfl
theorem zaB.zjt (s : ByteArray) : ∀ (l : List ByteArray) (i : Nat), decide (zaB.idx s l i ≥ 0) = l.any fun x => decide (s.toList = x.toList)
 | [], i => rfl
 | x :: r, i => by
  unfold zaB.idx
  by_cases h : s.toList = x.toList
  ·
   simp [h]
  ·
   rw [if_neg h, zaB.zjt s r (i + 1)]; simp [h]
theorem zaB.calls (A0 : Option Addr) (c0 : Nat) (l0 : List ByteArray) (a1 : ByteArray) (r : Int) (w : World) (hr0 : Kd.C Kd.string w A0 l0.length l0) (hc0 : l0.length ≤ c0) (h : zaB.f l0 a1 = some r) :
  Calls Try.prog 66 #[.slice A0 l0.length c0, .string a1] w fun e w' => e = .returned (.int .i64 r) ∧ za1 w w' := by
 unfold zaB.f at h
 by_cases hl : l0.length < 4398046511104
 case neg => rw [if_neg hl] at h; cases h
 rw [if_pos hl] at h
 have HH := zaa.mk (Option.some.inj h)
 have HR0 := zaa.mk hr0
 clear hr0 hc0 h
 go_enter Try.func66, Try.ntmps66
 go_wp2
 go_loop [8] (fun v8 => ∃ i : Nat, i ≤ l0.length ∧ v8 = .int .i64 i ∧ zaa (zaB.idx a1 (l0.drop i) i = r)) (fun v8 => l0.length - (intOf v8).toNat)
 case atStart => exact ⟨0, Nat.zero_le _, rfl, HH⟩
 case round =>
  obtain ⟨i, hi, rfl, HI⟩ := hrel
  by_cases hlt : i < l0.length
  ·
   obtain ⟨ad, hA, x0⟩ := Kd.zeF HR0.out (i : Int) o9 o9
   rw [Int.toNat_natCast] at x0
   have HA := zaB.zlY a1 l0 i hlt
   rw [HI.out] at HA
   obtain ⟨x, hx⟩ : ∃ x, x = rdOf ByteArray.empty l0 (i : Int) := ⟨_, rfl⟩
   rw [← hx] at HA x0
   clear hx
   subst hA
   by_cases he : a1.toList = x.toList
   ·
    rw [if_pos he] at HA
    have hq : (a1.toList == x.toList) = true := by simpa using he
    subst HA
    clear he
    go_wp2
    go_ret
    exact ⟨rfl, za1.refl _⟩
   ·
    rw [if_neg he] at HA
    have hq : (a1.toList == x.toList) = false := by simpa using he
    have HA2 := zaa.mk HA.symm
    clear he HA
    go_wp2
    go_round
    case rel => exact ⟨i + 1, by omega, by go_num, HA2⟩
    case measure => simp [intOf]; omega
  ·
   have hi2 : i = l0.length := by omega
   have HA := HI.out
   rw [hi2, List.drop_length] at HA
   have HA2 := zaa.mk HA
   clear HA hi2
   go_wp2
   go_ret
   exact ⟨by rw [← HA2.out]; rfl, za1.refl _⟩
def za5.f (l0 : List ByteArray) (a1 : ByteArray) : Option (Bool) := (zaB.f l0 a1).bind fun t134 => (some (decide (t134 ≥ 0)))
theorem za5.calls (A0 : Option Addr) (c0 : Nat) (l0 : List ByteArray) (a1 : ByteArray) (r : Bool) (w : World) (hr0 : Kd.C Kd.string w A0 l0.length l0) (hc0 : l0.length ≤ c0) (h : za5.f l0 a1 = some r) :
  Calls Try.prog 48 #[.slice A0 l0.length c0, .string a1] w fun e w' => e = .returned (.bool r) ∧ za1 w w' := by
 have HR0 := zaa.mk hr0
 have HC0 := zaa.mk hc0
 clear hr0 hc0
 have H : ((zaB.f l0 a1).bind fun t134 => (some (decide (t134 ≥ 0)))) = some r := h
 clear h
 replace H := Option.bind_eq_some_iff.mp H
 obtain ⟨t134, A30, H⟩ := H
 replace H : (some (decide (t134 ≥ 0))) = some r := H
 have A3 := zaa.mk A30
 clear A30
 obtain rfl := Option.some.inj H
 go_enter Try.func48, Try.ntmps48
 go_wp2_with (first | ((with_reducible refine za4 (f := 66) rfl ?_); refine zbX (some 7) rfl rfl Try.func66 k9 rfl #[.slice A0 l0.length c0, .string a1] rfl m9 ?_; (with_reducible refine (zaB.calls _ _ l0 a1 t134 _ ?side1 ?side2 A3.out).mono ?_); (case side1 => repeat (first | exact HR0.out | (with_reducible refine Kd.zbr ?_ _) | (with_reducible refine Kd.zbx ?_ _) | (with_reducible refine Kd.zbu ?_))); (case side2 => exact HC0.out); rintro e w' ⟨rfl, ⟨nd, rfl⟩⟩; refine ⟨_, rfl, ?_⟩))
 go_ret
 exact ⟨by first | rfl | (simp; done) | (simp [*]; done), by repeat (first | exact za1.refl _ | apply za1.step)⟩
def zaK.l0 : Nat → List ByteArray → List (S35) → Int → Int → Option (List ByteArray)
 | 0, _, _, _, _ => none
 | k + 1, x5, x10, x11, x12 => if x12 < x11 then (if 0 ≤ x12 then (if x12 < (x10.length : Int) then ((za5.f x5 ((za3 x10 x12).f1)).bind fun t140 => (if t140 = true then (zaK.l0 k x5 x10 x11 (wrap64 (x12 + 1))) else (if x5.length < 8796093022208 then (zaK.l0 k (x5 ++ [(za3 x10 x12).f1]) x10 x11 (wrap64 (x12 + 1))) else (none)))) else (none)) else (none)) else (some x5)
def zaK.f (k : Nat) (a0 : ByteArray) (l1 : List (S35)) : Option (List ByteArray) := zaK.l0 k (([a0] : List ByteArray)) l1 (l1.length : Int) 0
theorem zaK.zbM : ∀ k, (∀ y0 y1 y2 y3, LeO (zaK.l0 k y0 y1 y2 y3) (zaK.l0 (k + 1) y0 y1 y2 y3))
 | 0 => fun _ _ _ _ r h => by simp [zaK.l0] at h
 | k + 1 => by
  have ih0 := zaK.zbM k
  ·
   intro y0 y1 y2 y3
   unfold zaK.l0
   repeat' first
   | (with_reducible exact ih0 _ _ _ _)
   | (with_reducible exact LeO.refl _)
   | (with_reducible exact LeO.none _)
   | (with_reducible refine LeO.ite ?_ ?_)
   | (with_reducible refine LeO.bind ?_ (fun _ => ?_))
   | exact ih0 _ _ _ _
   | exact LeO.none _
   | refine LeO.ite ?_ ?_
   | refine LeO.bind ?_ (fun _ => ?_)
theorem zaK.mono : ∀ a0 a1 k, LeO (zaK.f k a0 a1) (zaK.f (k + 1) a0 a1) := by
 intro a0 a1 k
 have ih0 := zaK.zbM k
 unfold zaK.f
 repeat' first
   | (with_reducible exact ih0 _ _ _ _)
   | (with_reducible exact LeO.refl _)
   | (with_reducible exact LeO.none _)
   | (with_reducible refine LeO.ite ?_ ?_)
   | (with_reducible refine LeO.bind ?_ (fun _ => ?_))
   | exact ih0 _ _ _ _
   | exact LeO.none _
   | refine LeO.ite ?_ ?_
   | refine LeO.bind ?_ (fun _ => ?_)
theorem zaK.calls (k : Nat) (a0 : ByteArray) (A1 : Option Addr) (c1 : Nat) (l1 : List (S35)) (r : List ByteArray) (w : World) (hr1 : Kd.C k35 w A1 l1.length l1) (hc1 : l1.length ≤ c1) (h : zaK.f k a0 l1 = some r) :
  Calls Try.prog 31 #[.string a0, .slice A1 l1.length c1] w fun e w' => ∃ v0_ : Value, e = .returned (v0_) ∧ Kd.R Kd.string 9 w' w.heap.size (fun _ => True) v0_ r ∧ Below w.heap.size w w' := by
 have hu35 := Try.underlying35
 have HR1 := zaa.mk hr1
 have HC1 := zaa.mk hc1
 clear hr1 hc1
 have HB := zaa.mk (Below.refl w.heap.size w)
 have H : (zaK.l0 k (([a0] : List ByteArray)) l1 (l1.length : Int) 0) = some r := h
 clear h
 obtain ⟨y135, hy135⟩ : ∃ y_ : List ByteArray, y_ = (([a0] : List ByteArray)) := ⟨_, rfl⟩
 replace H : (zaK.l0 k y135 l1 (l1.length : Int) 0) = some r := by first | (rw [hy135]; with_reducible exact H) | (have H2_ := (Option.bind_some _ _).symm.trans H; rw [hy135]; with_reducible exact H2_) | (have H2_ := (Option.bind_some _ _).symm.trans H; with_reducible exact H2_) | with_reducible exact H | (rw [hy135]; exact H) | exact H
 have Ny135 := zaa.mk hy135
 clear hy135
 have H' := zaa.mk H
 clear H
 go_enter Try.func31, Try.ntmps31
 go_wp2_with (first | ((with_reducible refine zaL (N := 9) rfl ?_); refine Kd.R_lit Kd.string _ 9 ?hg (N := 9) ?hd (xs := ([a0] : List ByteArray)) (inner := [.string a0]) (ok := fun _ => True) (okp := fun _ => True) ?hr ?hp (fun _ hk => hk) trivial (Below.refl _ _) (Nat.le_refl _) s9 ?_; (case hd => rfl); (case hg => rfl); (case hr => first | (go_simp; done) | (go_simp; rfl)); (case hp => exact (Reps.one (show Kd.M Kd.string _ _ _ a0 [.string a0] from rfl) (Reps.none _ _))); intro v136 w3 ho4 hb hg_ hnew_; clear hg_ hnew_; (first | rw [← Ny135.out] at ho4 | (simp only [Int.reduceToNat] at ho4; rw [← Ny135.out] at ho4)); have HO137 := zaa.mk (Kd.zbi ho4 (zaO (bl HB.out))); replace HB := zaa.mk (zan (bl HB.out) hb); clear hb ho4))
 go_loopg [5, 12] k (fun kq v5 v12 w' => ∃ (x5_1 : List ByteArray) (x12_1 : Int), v12 = .int .i64 x12_1 ∧ zaa (zaK.l0 kq x5_1 l1 (l1.length : Int) x12_1 = some r) ∧ zaa (kq ≤ k) ∧ zaa (Kd.R Kd.string 9 w' w.heap.size (fun _ => True) v5 x5_1) ∧ zaa (Below w.heap.size w w'))
 case atStart => exact ⟨(y135), (0), (by first | rfl | (simp; done) | (simp [*]; done)), H', ⟨Nat.le_refl _⟩, ⟨rk HO137.out⟩, ⟨bl HB.out⟩⟩
 case round =>
  clear H'
  try clear c1
  try clear p2
  try clear c3
  obtain ⟨x5_1, x12_1, rfl, HA, HK1, HO_5, HB⟩ := hrel
  cases gk with
  | zero => exact absurd HA.out (by simp [zaK.l0])
  | succ k1 =>
   have H := HA.out
   clear HA
   simp only [zaK.l0] at H
   by_cases c5 : x12_1 < (l1.length : Int)
   ·
    rw [if_pos c5] at H
    have c5b0 : decide (x12_1 < (l1.length : Int)) = true := decide_eq_true c5
    clear c5
    by_cases c6 : 0 ≤ x12_1
    ·
     rw [if_pos c6] at H
     have c6b0 : decide (0 ≤ x12_1) = true := decide_eq_true c6
     clear c6
     by_cases c7 : x12_1 < (l1.length : Int)
     ·
      rw [if_pos c7] at H
      have c7b0 : decide (x12_1 < (l1.length : Int)) = true := decide_eq_true c7
      clear c7
      replace H := Option.bind_eq_some_iff.mp H
      obtain ⟨t140, A80, H⟩ := H
      replace H : (if t140 = true then (zaK.l0 k1 x5_1 l1 (l1.length : Int) (wrap64 (x12_1 + 1))) else (if x5_1.length < 8796093022208 then (zaK.l0 k1 (x5_1 ++ [(za3 l1 x12_1).f1]) l1 (l1.length : Int) (wrap64 (x12_1 + 1))) else (none))) = some r := H
      have A8 := zaa.mk A80
      clear A80
      by_cases c9 : t140 = true
      ·
       subst c9
       have H1 : (zaK.l0 k1 x5_1 l1 (l1.length : Int) (wrap64 (x12_1 + 1))) = some r := by rw [if_pos rfl] at H; exact H
       clear H
       have H := H1
       clear H1
       have H' := zaa.mk H
       clear H
       have p138 : 0 ≤ (x12_1 : Int) := of_decide_eq_true (by first | (with_reducible assumption) | assumption)
       have q138 : x12_1 < (l1.length : Int) := of_decide_eq_true (by first | (with_reducible assumption) | assumption)
       obtain ⟨ad138, e138, hx138_0, hx138_1, hx138_2⟩ := zcR HR1.out x12_1 p138 q138
       cases e138
       replace hx138_0 := (HB.out.cell (World.block_lt_of_cell? w _ hx138_0)).trans hx138_0
       replace hx138_1 := (HB.out.cell (World.block_lt_of_cell? w _ hx138_1)).trans hx138_1
       replace hx138_2 := (HB.out.cell (World.block_lt_of_cell? w _ hx138_2)).trans hx138_2
       replace p138 := eq_true p138
       replace q138 := eq_true q138
       go_wp2_with (first | ((with_reducible refine zaL (N := 7) rfl ?_); refine zbq (N := 7) (cs := #[.bool false, .string (⟨#[]⟩ : ByteArray), .int .i64 0]) (t := 35) ?_; intro gb139 hg w10 hbox hb; have BK139 := zaa.mk (hbox); have GW139 := zaa.mk (gw hg (bl HB.out) : w.heap.size ≤ gb139); have GE139 := GW139; replace HO_5 := zaa.mk (Kd.zbC (rk HO_5.out) hb); replace HB := zaa.mk (zan (bl HB.out) hb); clear hb hbox hg; have hcz11_0 : w10.cell? ⟨gb139, 0, none⟩ = some (.bool false) := (zac BK139.out 0).trans rfl; have hcz11_1 : w10.cell? ⟨gb139, 1, none⟩ = some (.string (⟨#[]⟩ : ByteArray)) := (zac BK139.out 1).trans rfl; have hcz11_2 : w10.cell? ⟨gb139, 2, none⟩ = some (.int .i64 0) := (zac BK139.out 2).trans rfl; have hfz11_0 := zab BK139.out 0; have hfz11_1 := zab BK139.out 1; have hfz11_2 := zab BK139.out 2; obtain ⟨Ao12, co12, eo12⟩ := Kd.zbj HO_5.out; subst eo12) | ((with_reducible refine za4 (f := 48) rfl ?_); refine zbX (some 19) rfl rfl Try.func48 k9 rfl #[.slice Ao12 x5_1.length co12, .string ((za3 l1 x12_1).f1)] rfl m9 ?_; (with_reducible refine (za5.calls _ _ x5_1 ((za3 l1 x12_1).f1) true _ ?side1 ?side2 A8.out).mono ?_); (case side1 => refine (Kd.zbn (e := 9) (base := w.heap.size) (ok := fun k_ => True) (n := x5_1.length) (c := co12) ?_).2.2; exact (by (with_reducible repeat (first | apply Kd.zbt | apply Kd.zbA | apply Kd.zbN)); exact (Kd.za0 (Kd.R_far (p := ⟨gb139, 2, none⟩) (Kd.R_far (p := ⟨gb139, 1, none⟩) (Kd.R_far (p := ⟨gb139, 0, none⟩) (Kd.zbJ HO_5.out BK139.out d9) (fun _ hk => hk.2) (.bool ((za3 l1 x12_1).f0))) (fun _ hk => hk.2) (.string ((za3 l1 x12_1).f1))) (fun _ hk => hk.2) (.int .i64 ((za3 l1 x12_1).f2))) (fun _ h_ => h_.1)))); (case side2 => exact (Kd.zbn HO_5.out).2.1); rintro e w' ⟨rfl, ⟨nd, rfl⟩⟩; refine ⟨_, rfl, ?_⟩))
       go_roundg k1
       case measure => have := HK1.out; omega
       case rel => exact ⟨(x5_1), (wrap64 (x12_1 + 1)), (by first | rfl | (simp; done) | (simp [*]; done)), H', ⟨by have := HK1.out; omega⟩, ⟨by (with_reducible repeat (first | apply Kd.zbt | apply Kd.zbA | apply Kd.zbN)); exact Kd.za0 (Kd.R_far (p := ⟨gb139, 2, none⟩) (Kd.R_far (p := ⟨gb139, 1, none⟩) (Kd.R_far (p := ⟨gb139, 0, none⟩) (Kd.zbJ HO_5.out BK139.out d9) (fun _ hk => hk.2) (.bool ((za3 l1 x12_1).f0))) (fun _ hk => hk.2) (.string ((za3 l1 x12_1).f1))) (fun _ hk => hk.2) (.int .i64 ((za3 l1 x12_1).f2))) (fun _ hk => trivial)⟩, ⟨bl HB.out⟩⟩
      ·
       replace c9 := Bool.eq_false_iff.mpr c9
       subst c9
       have H1 : (if x5_1.length < 8796093022208 then (zaK.l0 k1 (x5_1 ++ [(za3 l1 x12_1).f1]) l1 (l1.length : Int) (wrap64 (x12_1 + 1))) else (none)) = some r := by rw [if_neg (show ¬ (false = true) by decide)] at H; exact H
       clear H
       have H := H1
       clear H1
       by_cases c13 : x5_1.length < 8796093022208
       ·
        rw [if_pos c13] at H
        have LMc13 := zaa.mk c13
        clear c13
        obtain ⟨y141, hy141⟩ : ∃ y_ : List ByteArray, y_ = (x5_1 ++ [(za3 l1 x12_1).f1]) := ⟨_, rfl⟩
        replace H : (zaK.l0 k1 y141 l1 (l1.length : Int) (wrap64 (x12_1 + 1))) = some r := by first | (rw [hy141]; with_reducible exact H) | (have H2_ := (Option.bind_some _ _).symm.trans H; rw [hy141]; with_reducible exact H2_) | (have H2_ := (Option.bind_some _ _).symm.trans H; with_reducible exact H2_) | with_reducible exact H | (rw [hy141]; exact H) | exact H
        have Ny141 := zaa.mk hy141
        clear hy141
        have H' := zaa.mk H
        clear H
        have p138 : 0 ≤ (x12_1 : Int) := of_decide_eq_true (by first | (with_reducible assumption) | assumption)
        have q138 : x12_1 < (l1.length : Int) := of_decide_eq_true (by first | (with_reducible assumption) | assumption)
        obtain ⟨ad138, e138, hx138_0, hx138_1, hx138_2⟩ := zcR HR1.out x12_1 p138 q138
        cases e138
        replace hx138_0 := (HB.out.cell (World.block_lt_of_cell? w _ hx138_0)).trans hx138_0
        replace hx138_1 := (HB.out.cell (World.block_lt_of_cell? w _ hx138_1)).trans hx138_1
        replace hx138_2 := (HB.out.cell (World.block_lt_of_cell? w _ hx138_2)).trans hx138_2
        replace p138 := eq_true p138
        replace q138 := eq_true q138
        go_wp2_with (first | ((with_reducible refine zaL (N := 7) rfl ?_); refine zbq (N := 7) (cs := #[.bool false, .string (⟨#[]⟩ : ByteArray), .int .i64 0]) (t := 35) ?_; intro gb139 hg w14 hbox hb; have BK139 := zaa.mk (hbox); have GW139 := zaa.mk (gw hg (bl HB.out) : w.heap.size ≤ gb139); have GE139 := GW139; replace HO_5 := zaa.mk (Kd.zbC (rk HO_5.out) hb); replace HB := zaa.mk (zan (bl HB.out) hb); clear hb hbox hg; have hcz15_0 : w14.cell? ⟨gb139, 0, none⟩ = some (.bool false) := (zac BK139.out 0).trans rfl; have hcz15_1 : w14.cell? ⟨gb139, 1, none⟩ = some (.string (⟨#[]⟩ : ByteArray)) := (zac BK139.out 1).trans rfl; have hcz15_2 : w14.cell? ⟨gb139, 2, none⟩ = some (.int .i64 0) := (zac BK139.out 2).trans rfl; have hfz15_0 := zab BK139.out 0; have hfz15_1 := zab BK139.out 1; have hfz15_2 := zab BK139.out 2; obtain ⟨Ao16, co16, eo16⟩ := Kd.zbj HO_5.out; subst eo16) | ((with_reducible refine za4 (f := 48) rfl ?_); refine zbX (some 19) rfl rfl Try.func48 k9 rfl #[.slice Ao16 x5_1.length co16, .string ((za3 l1 x12_1).f1)] rfl m9 ?_; (with_reducible refine (za5.calls _ _ x5_1 ((za3 l1 x12_1).f1) false _ ?side1 ?side2 A8.out).mono ?_); (case side1 => refine (Kd.zbn (e := 9) (base := w.heap.size) (ok := fun k_ => True) (n := x5_1.length) (c := co16) ?_).2.2; exact (by (with_reducible repeat (first | apply Kd.zbt | apply Kd.zbA | apply Kd.zbN)); exact (Kd.za0 (Kd.R_far (p := ⟨gb139, 2, none⟩) (Kd.R_far (p := ⟨gb139, 1, none⟩) (Kd.R_far (p := ⟨gb139, 0, none⟩) (Kd.zbJ HO_5.out BK139.out d9) (fun _ hk => hk.2) (.bool ((za3 l1 x12_1).f0))) (fun _ hk => hk.2) (.string ((za3 l1 x12_1).f1))) (fun _ hk => hk.2) (.int .i64 ((za3 l1 x12_1).f2))) (fun _ h_ => h_.1)))); (case side2 => exact (Kd.zbn HO_5.out).2.1); rintro e w' ⟨rfl, ⟨nd, rfl⟩⟩; refine ⟨_, rfl, ?_⟩) | ((with_reducible refine zbS (b := .append) (xs := #[.tmp 21, .tmp 24]) rfl ?_); at_builtin; refine Kd.zdm Kd.string (w0 := w) w.heap.size rfl (.tmp 21) (.tmp 24) 65 9 (.string ⟨#[]⟩) 16 rfl Try.underlying65 info9 rfl d9 o9 (.slice Ao16 x5_1.length co16) x5_1 ((za3 l1 x12_1).f1) [.string ((za3 l1 x12_1).f1)] (fun _ => True) (fun _ => False) rfl (by first | (go_simp; done) | (go_simp; rfl)) ?aP (fun _ hk => hk.elim) ?aF ?aO ?aB ?aS ?aL ?_; (case aP => exact rfl); (case aB => exact (bl HB.out)); (case aF => exact (fun _ _ => trivial)); (case aO => exact (by (with_reducible repeat (first | apply Kd.zbt | apply Kd.zbA | apply Kd.zbN)); exact Kd.za0 (Kd.R_far (p := ⟨gb139, 2, none⟩) (Kd.R_far (p := ⟨gb139, 1, none⟩) (Kd.R_far (p := ⟨gb139, 0, none⟩) (Kd.zbJ HO_5.out BK139.out d9) (fun _ hk => hk.2) (.bool ((za3 l1 x12_1).f0))) (fun _ hk => hk.2) (.string ((za3 l1 x12_1).f1))) (fun _ hk => hk.2) (.int .i64 ((za3 l1 x12_1).f2))) (fun _ hk => trivial))); (case aS => exact (zaO (bl HB.out))); (case aL => have := LMc13.out; omega); intro v142 w17 ho hb hg hat; rw [← Ny141.out] at ho; have HO143 := zaa.mk (ho); replace BK139 := zaa.mk (zcD (g := gb139) (o := .cells #[.bool ((za3 l1 x12_1).f0), .string ((za3 l1 x12_1).f1), .int .i64 ((za3 l1 x12_1).f2)] 35 (0, 0)) (bp BK139.out) hg (Kd.R_ne HO_5.out BK139.out d9)); replace HB := zaa.mk (hb); clear HO_5; clear ho hb hg hat))
        go_roundg k1
        case measure => have := HK1.out; omega
        case rel => exact ⟨(y141), (wrap64 (x12_1 + 1)), (by first | rfl | (simp; done) | (simp [*]; done)), H', ⟨by have := HK1.out; omega⟩, ⟨rk HO143.out⟩, ⟨bl HB.out⟩⟩
       ·
        rw [if_neg c13] at H
        exact absurd H s9
     ·
      rw [if_neg c7] at H
      exact absurd H s9
    ·
     rw [if_neg c6] at H
     exact absurd H s9
   ·
    rw [if_neg c5] at H
    have c5b0 : decide (x12_1 < (l1.length : Int)) = false := decide_eq_false c5
    clear c5
    obtain rfl := Option.some.inj H
    go_wp2
    go_ret
    exact ⟨_, by first | rfl | (simp [zaz, zaA] <;> rfl) | (simp [*, zaz, zaA] <;> rfl), rk HO_5.out, bl HB.out⟩
def zaG.lists (k : Nat) (l0 : List (S64)) : List ByteArray → Option (List (List (S33)))
 | [] => some []
 | c :: r => (zay.f k l0 c).bind fun x => (zaG.lists k l0 r).bind fun xs => some (x :: xs)
def zaG.fits (cs : List ByteArray) (ls : List (List (S33))) (ms : List (S33)) : Bool := decide (cs.length < 2199023255552) && ls.all (fun x => decide (x.length < 2199023255552)) && decide (ms.length < 2199023255552)
open Go.Proofs.YtinkbljjpafadaaTab in
def zaG.f (k : Nat) (l0 : List (S64)) (a1_0 a1_1 a1_2 : Int) (a1_3 : ByteArray) (l1_4 : List (S35)) : Option (List (S33)) :=
 if a1_0 = 7 then (zaK.f k a1_3 l1_4).bind fun cs => (zaG.lists k l0 cs).bind fun ls => (zay.f k l0 a1_3).bind fun ms => if zaG.fits cs ls ms = true then some (zcJ ms ls) else none else some []
theorem zaG.zfv (k : Nat) (l0 : List (S64)) : ∀ cs, LeO (zaG.lists k l0 cs) (zaG.lists (k + 1) l0 cs)
 | [] => LeO.refl _
 | c :: r => LeO.bind (zay.mono l0 c k) (fun _ => LeO.bind (zaG.zfv k l0 r) (fun _ => LeO.refl _))
theorem zaG.mono : ∀ l0 a1_0 a1_1 a1_2 a1_3 l1_4 k, LeO (zaG.f k l0 a1_0 a1_1 a1_2 a1_3 l1_4) (zaG.f (k + 1) l0 a1_0 a1_1 a1_2 a1_3 l1_4) := by
 intro l0 a1_0 a1_1 a1_2 a1_3 l1_4 k
 unfold zaG.f
 exact LeO.ite (LeO.bind (zaK.mono a1_3 l1_4 k) (fun cs => LeO.bind (zaG.zfv k l0 cs) (fun ls => LeO.bind (zay.mono l0 a1_3 k) (fun ms => LeO.refl _)))) (LeO.refl _)
theorem zaG.zhu (k : Nat) (l0 : List (S64)) : ∀ (cs : List ByteArray) (ls : List (List (S33))), zaG.lists k l0 cs = some ls → ls.length = cs.length ∧ ∀ i : Nat, i < cs.length → zay.f k l0 (rdOf ByteArray.empty cs (i : Int)) = some (ls.getD i [])
 | [], ls, h => by
  obtain rfl := Option.some.inj h
  exact ⟨rfl, fun i hi => absurd hi s9⟩
 | c :: r, ls, h => by
  unfold zaG.lists at h
  obtain ⟨x, hx, h⟩ := Option.bind_eq_some_iff.1 h
  obtain ⟨xs, hxs, h⟩ := Option.bind_eq_some_iff.1 h
  obtain rfl := Option.some.inj h
  obtain ⟨h1, h2⟩ := zaG.zhu k l0 r xs hxs
  refine ⟨by simp [h1], fun i hi => ?_⟩
  cases i with
  | zero => exact hx
  | succ n =>
   have h3 := h2 n (by simpa using hi)
   unfold rdOf at h3 ⊢
   rw [Int.toNat_natCast] at h3 ⊢
   exact h3
open Go.Proofs.YtinkbljjpafadaaTab in
theorem zaG.calls (k : Nat) (A0 : Option Addr) (c0 : Nat) (l0 : List (S64)) (a1_0 a1_1 a1_2 : Int) (a1_3 : ByteArray) (A1_4 : Option Addr) (c1_4 : Nat) (l1_4 : List (S35)) (r : List (S33)) (w : World) (hr0 : Kd.C k64 w A0 l0.length l0) (hc0 : l0.length ≤ c0) (hr1_4 : Kd.C k35 w A1_4 l1_4.length l1_4) (hc1_4 : l1_4.length ≤ c1_4) (h : zaG.f k l0 a1_0 a1_1 a1_2 a1_3 l1_4 = some r) :
  Calls Try.prog 8 #[.slice A0 l0.length c0, .agg #[.int .i64 a1_0, .int .i64 a1_1, .int .u64 a1_2, .string a1_3, .slice A1_4 l1_4.length c1_4]] w fun e w' => ∃ v0_ : Value, e = .returned (v0_) ∧ Kd.R k33 33 w' w.heap.size (fun _ => True) v0_ r ∧ Below w.heap.size w w' := by
 unfold zaG.f at h
 by_cases h7 : a1_0 = 7
 ·
  rw [if_pos h7] at h
  obtain ⟨cs, hcs, h⟩ := Option.bind_eq_some_iff.1 h
  obtain ⟨ls, hls, h⟩ := Option.bind_eq_some_iff.1 h
  obtain ⟨ms, hms, h⟩ := Option.bind_eq_some_iff.1 h
  by_cases hf : zaG.fits cs ls ms = true
  ·
   rw [if_pos hf] at h
   obtain rfl := Option.some.inj h
   unfold zaG.fits at hf
   simp only [Bool.and_eq_true, decide_eq_true_eq, List.all_eq_true] at hf
   obtain ⟨hll, hat⟩ := zaG.zhu k l0 cs ls hls
   subst h7
   exact zhi A0 c0 l0 a1_1 a1_2 a1_3 A1_4 c1_4 l1_4 cs ls ms w
    (fun w' hb => zaK.calls k a1_3 A1_4 c1_4 l1_4 cs w' (Kd.zat hr1_4 hb) hc1_4 hcs)
    (fun i hi w' hb => zay.calls k A0 c0 l0 _ _ w' (Kd.zat hr0 hb) hc0 (hat i hi))
    (fun w' hb => zay.calls k A0 c0 l0 _ _ w' (Kd.zat hr0 hb) hc0 hms)
    hll hf.1.1 hf.1.2 hf.2
  ·
   rw [if_neg hf] at h; cases h
 ·
  rw [if_neg h7] at h
  obtain rfl := Option.some.inj h
  have hu27 := Try.underlying27
  have hq : (a1_0 == 7) = false := by simpa using h7
  have hd : decide (a1_0 = 7) = false := decide_eq_false h7
  have HC := zaa.mk h7
  clear hr0 hr1_4 hc0 hc1_4 h7
  go_enter Try.func8, Try.ntmps8
  go_wp2_with fail
  go_ret
  exact ⟨_, rfl, Kd.R_nil _ _ _ _ _, (Below.refl _ _).alloc (Nat.le_refl _) _⟩
open Go.Proofs.YtinkbljjpafadaaTab in
def zaI.ent (k : Nat) (l0 : List (S64)) (a1_0 a1_1 a1_2 : Int) (a1_3 : ByteArray) (l1_4 : List (S35)) (a2 : ByteArray) (a3 : Int) (a4 : Bool) : Option (Option Val) :=
 (zck.f a2).bind fun tg => (zb3.f a2).bind fun kd => (zaZ.f l1_4).bind fun ch =>
 if kd = 2 then some (some (a1_0, a1_1, a1_2, a1_3, ch)) else if kd = 1 then (if a1_0 = tg.1 then some (some (a1_0, a1_1, a1_2, a1_3, ch)) else some none)
 else if kd = 3 then (if a1_0 = 6 then some (some (a1_0, a1_1, a1_2, a1_3, ch)) else (zaG.f k l0 a1_0 a1_1 a1_2 a1_3 l1_4).bind fun sh => if a1_0 = 7 then (zay.f k l0 a2).bind fun ms => (if sh.length < 4398046511104 ∧ ms.length < 4398046511104 then (if (ms.any fun x => !hasM sh x) = true then some none else (zaM.f l0 a4 a3 a1_0 a1_1 a1_2 a1_3 l1_4 true a2).bind fun r => some (some r)) else none) else some none)
 else some none
open Go.Proofs.YtinkbljjpafadaaTab in
def zaI.out (a3 : Int) : Option Val → Int × Int × Int × ByteArray × List (S35) × Int
 | some (a, b, c, s, l) => (a, b, c, s, l, 0)
 | none => (0, 0, 0, (⟨#[]⟩ : ByteArray), [], a3)
def zaI.f (k : Nat) (l0 : List (S64)) (a1_0 a1_1 a1_2 : Int) (a1_3 : ByteArray) (l1_4 : List (S35)) (a2 : ByteArray) (a3 : Int) (a4 : Bool) : Option (Int × Int × Int × ByteArray × List (S35) × Int) :=
 (zaI.ent k l0 a1_0 a1_1 a1_2 a1_3 l1_4 a2 a3 a4).bind fun o => some (zaI.out a3 o)
theorem zaI.zhJ : ∀ l0 a1_0 a1_1 a1_2 a1_3 l1_4 a2 a3 a4 k, LeO (zaI.ent k l0 a1_0 a1_1 a1_2 a1_3 l1_4 a2 a3 a4) (zaI.ent (k + 1) l0 a1_0 a1_1 a1_2 a1_3 l1_4 a2 a3 a4) := by
 intro l0 a1_0 a1_1 a1_2 a1_3 l1_4 a2 a3 a4 k
 unfold zaI.ent
 exact LeO.bind (LeO.refl _) (fun tg => LeO.bind (LeO.refl _) (fun kd => LeO.bind (LeO.refl _) (fun ch => LeO.ite (LeO.refl _) (LeO.ite (LeO.refl _) (LeO.ite (LeO.ite (LeO.refl _) (LeO.bind (zaG.mono l0 a1_0 a1_1 a1_2 a1_3 l1_4 k) (fun sh => LeO.ite (LeO.bind (zay.mono l0 a2 k) (fun ms => LeO.refl _)) (LeO.refl _)))) (LeO.refl _))))))
theorem zaI.mono : ∀ l0 a1_0 a1_1 a1_2 a1_3 l1_4 a2 a3 a4 k, LeO (zaI.f k l0 a1_0 a1_1 a1_2 a1_3 l1_4 a2 a3 a4) (zaI.f (k + 1) l0 a1_0 a1_1 a1_2 a1_3 l1_4 a2 a3 a4) := by
 intro l0 a1_0 a1_1 a1_2 a1_3 l1_4 a2 a3 a4 k
 unfold zaI.f
 exact LeO.bind (zaI.zhJ l0 a1_0 a1_1 a1_2 a1_3 l1_4 a2 a3 a4 k) (fun o => LeO.refl _)
theorem zaI.clone {l r : List (S35)} (h : zaZ.f l = some r) : r = l := by
 unfold zaZ.f at h
 split at h
 ·
  exact (Option.some.inj h).symm
 ·
  cases h
open Go.Proofs.YtinkbljjpafadaaTab in
theorem zaI.tells (k : Nat) (A0 : Option Addr) (c0 : Nat) (l0 : List (S64)) (a1_0 a1_1 a1_2 : Int) (a1_3 : ByteArray) (A1_4 : Option Addr) (c1_4 : Nat) (l1_4 : List (S35)) (a2 : ByteArray) (a3 : Int) (a4 : Bool) (o : Option Val) (w : World) (hr0 : Kd.C k64 w A0 l0.length l0) (hc0 : l0.length ≤ c0) (hr1_4 : Kd.C k35 w A1_4 l1_4.length l1_4) (hc1_4 : l1_4.length ≤ c1_4) (h : zaI.ent k l0 a1_0 a1_1 a1_2 a1_3 l1_4 a2 a3 a4 = some o) :
  Calls Try.prog 47 #[.agg #[.slice A0 l0.length c0, .bool a4, .int .i64 a3], .agg #[.int .i64 a1_0, .int .i64 a1_1, .int .u64 a1_2, .string a1_3, .slice A1_4 l1_4.length c1_4], .string a2] w (Ent a3 w o) := by
 unfold zaI.ent at h
 obtain ⟨tg, htg, h⟩ := Option.bind_eq_some_iff.1 h
 obtain ⟨kd, hkd, h⟩ := Option.bind_eq_some_iff.1 h
 obtain ⟨ch, hch, h⟩ := Option.bind_eq_some_iff.1 h
 obtain rfl := zaI.clone hch
 refine zgh A0 c0 l0 a4 a3 a1_0 a1_1 a1_2 a1_3 A1_4 c1_4 ch a2 tg.1 tg.2 kd o w
  (fun w' hb => zaZ.calls A1_4 c1_4 ch ch w' (Kd.zat hr1_4 hb) hc1_4 hch)
  (fun w' hb => zck.calls a2 tg.1 tg.2 w' htg) (fun w' hb => zb3.calls a2 kd w' hkd) ?_
 unfold EntK
 by_cases k2 : kd = 2
 ·
  rw [if_pos k2] at h
  exact .inl ⟨k2, (Option.some.inj h).symm⟩
 rw [if_neg k2] at h
 by_cases k1 : kd = 1
 ·
  rw [if_pos k1] at h
  by_cases ht : a1_0 = tg.1
  ·
   rw [if_pos ht] at h
   exact .inr (.inl ⟨k1, ht, (Option.some.inj h).symm⟩)
  ·
   rw [if_neg ht] at h
   exact .inr (.inr (.inl ⟨k1, ht, (Option.some.inj h).symm⟩))
 rw [if_neg k1] at h
 by_cases k3 : kd = 3
 ·
  rw [if_pos k3] at h
  by_cases h6 : a1_0 = 6
  ·
   rw [if_pos h6] at h
   exact .inr (.inr (.inr (.inl ⟨k3, h6, (Option.some.inj h).symm⟩)))
  ·
   rw [if_neg h6] at h
   obtain ⟨sh, hsh, h⟩ := Option.bind_eq_some_iff.1 h
   have hs : zgk k33 33 8 #[.slice A0 l0.length c0, .agg #[.int .i64 a1_0, .int .i64 a1_1, .int .u64 a1_2, .string a1_3, .slice A1_4 ch.length c1_4]] sh w :=
    fun w' hb => zaG.calls k A0 c0 l0 a1_0 a1_1 a1_2 a1_3 A1_4 c1_4 ch sh w' (Kd.zat hr0 hb) hc0 (Kd.zat hr1_4 hb) hc1_4 hsh
   by_cases h7 : a1_0 = 7
   ·
    rw [if_pos h7] at h
    obtain ⟨ms, hms, h⟩ := Option.bind_eq_some_iff.1 h
    by_cases hl : sh.length < 4398046511104 ∧ ms.length < 4398046511104
    ·
     rw [if_pos hl] at h
     refine .inr (.inr (.inr (.inr (.inr (.inl ⟨k3, h7, sh, ms, hs, fun w' hb => zay.calls k A0 c0 l0 a2 ms w' (Kd.zat hr0 hb) hc0 hms, hl.1, hl.2, ?_⟩)))))
     by_cases ha : (ms.any fun x => !hasM sh x) = true
     ·
      rw [if_pos ha] at h
      exact .inl ⟨ha, (Option.some.inj h).symm⟩
     ·
      rw [if_neg ha] at h
      obtain ⟨r, hr, h⟩ := Option.bind_eq_some_iff.1 h
      obtain rfl := Option.some.inj h
      obtain ⟨r1, r2, r3, r4, r5⟩ := r
      exact .inr ⟨by simpa using ha, rfl, fun w' hb => zaM.calls A0 c0 l0 a4 a3 a1_0 a1_1 a1_2 a1_3 A1_4 c1_4 ch true a2 r1 r2 r3 r4 r5 w' (Kd.zat hr0 hb) hc0 (Kd.zat hr1_4 hb) hc1_4 hr⟩
    ·
     rw [if_neg hl] at h; cases h
   ·
    rw [if_neg h7] at h
    exact .inr (.inr (.inr (.inr (.inl ⟨k3, h6, h7, (Option.some.inj h).symm, sh, hs⟩))))
 rw [if_neg k3] at h
 exact .inr (.inr (.inr (.inr (.inr (.inr ⟨k1, k2, k3, (Option.some.inj h).symm⟩)))))
open Go.Proofs.YtinkbljjpafadaaTab in
theorem zaI.calls (k : Nat) (A0 : Option Addr) (c0 : Nat) (l0 : List (S64)) (a1_0 a1_1 a1_2 : Int) (a1_3 : ByteArray) (A1_4 : Option Addr) (c1_4 : Nat) (l1_4 : List (S35)) (a2 : ByteArray) (a3 : Int) (a4 : Bool) (r1 r2 r3 : Int) (r4 : ByteArray) (r5 : List (S35)) (r6 : Int) (w : World) (hr0 : Kd.C k64 w A0 l0.length l0) (hc0 : l0.length ≤ c0) (hr1_4 : Kd.C k35 w A1_4 l1_4.length l1_4) (hc1_4 : l1_4.length ≤ c1_4) (h : zaI.f k l0 a1_0 a1_1 a1_2 a1_3 l1_4 a2 a3 a4 = some (r1, r2, r3, r4, r5, r6)) :
  Calls Try.prog 30 #[.slice A0 l0.length c0, .agg #[.int .i64 a1_0, .int .i64 a1_1, .int .u64 a1_2, .string a1_3, .slice A1_4 l1_4.length c1_4], .string a2, .int .i64 a3, .bool a4] w fun e w' => ∃ v4_ : Value, e = .returned (.tuple #[.agg #[.int .i64 r1, .int .i64 r2, .int .u64 r3, .string r4, v4_], .int .i64 r6]) ∧ Kd.R k35 35 w' w.heap.size (fun _ => True) v4_ r5 ∧ Below w.heap.size w w' := by
 unfold zaI.f at h
 obtain ⟨o, ho, h⟩ := Option.bind_eq_some_iff.1 h
 refine (zgP A0 c0 l0 a4 a3 a1_0 a1_1 a1_2 a1_3 A1_4 c1_4 l1_4.length a2 o w (fun w' hb => zaI.tells k A0 c0 l0 a1_0 a1_1 a1_2 a1_3 A1_4 c1_4 l1_4 a2 a3 a4 o w' (Kd.zat hr0 hb) hc0 (Kd.zat hr1_4 hb) hc1_4 ho)).mono ?_
 intro e w' hE
 cases o with
 | none =>
  simp only [zaI.out, Option.some.injEq, Prod.mk.injEq] at h
  obtain ⟨rfl, rfl, rfl, rfl, rfl, rfl⟩ := h
  obtain ⟨rfl, hb⟩ := hE
  exact ⟨_, rfl, Kd.R_nil _ _ _ _ _, hb⟩
 | some o =>
  obtain ⟨x1, x2, x3, x4, x5⟩ := o
  simp only [zaI.out, Option.some.injEq, Prod.mk.injEq] at h
  obtain ⟨rfl, rfl, rfl, rfl, rfl, rfl⟩ := h
  obtain ⟨v, rfl, hR, hb⟩ := hE
  exact ⟨v, rfl, hR, hb⟩
open Go.Proofs.YtinkbljjpafadaaTab in
def zao.step (k : Nat) (l0 : List (S64)) (mem : ByteArray) (param : Int) (merged inn : Bool) (x : S35) (v : Val) : Option (Option Val) :=
 if (zbD l0 x.f1 mem param).2 = false then some (some v)
 else if x.f0 = inn then (zav.f k l0 merged x.f2 v.1 v.2.1 v.2.2.1 v.2.2.2.1 v.2.2.2.2 (zbD l0 x.f1 mem param).1).bind fun r => some (some r)
 else zaI.ent k l0 v.1 v.2.1 v.2.2.1 v.2.2.2.1 v.2.2.2.2 (zbD l0 x.f1 mem param).1 x.f2 merged
open Go.Proofs.YtinkbljjpafadaaTab in
def zao.run (FO : S35 → Val → Option (Option Val)) : List (S35) → Val → Option (Option Val × Int)
 | [], v => some (some v, 0)
 | x :: r, v => (FO x v).bind fun o => match o with
  | some v' => zao.run FO r v'
  | none => some (none, x.f2)
open Go.Proofs.YtinkbljjpafadaaTab in
theorem zao.zkC (FO : S35 → Val → Option (Option Val)) : ∀ (l : List (S35)) (v : Val) (res : Option Val × Int), zao.run FO l v = some res →
  Go.Proofs.YtinkbljjpafadaaTab.runT (fun x u => (FO x u).getD none) l v = res ∧ ∀ pre x u, pre ++ [x] <+: l → Go.Proofs.YtinkbljjpafadaaTab.okT (fun x u => (FO x u).getD none) pre v = some u → ∃ o, FO x u = some o
 | [], v, res, h => ⟨Option.some.inj h, fun pre x u hp _ => by have := hp.length_le; simp at this⟩
 | y :: r, v, res, h => by
  unfold zao.run at h
  obtain ⟨o, ho, h⟩ := Option.bind_eq_some_iff.1 h
  have hF : (FO y v).getD none = o := by rw [ho]; rfl
  cases o with
  | none =>
   obtain rfl := Option.some.inj h
   refine ⟨Go.Proofs.YtinkbljjpafadaaTab.zgr hF r, fun pre x u hp hu => ?_⟩
   cases pre with
   | nil =>
    obtain rfl : x = y := by
     have := hp.eq_of_length_le
     obtain ⟨z, hz⟩ := hp
     simp at hz
     exact hz.1
    obtain rfl := Option.some.inj hu
    exact ⟨_, ho⟩
   | cons q pre =>
    obtain rfl : q = y := by
     obtain ⟨z, hz⟩ := hp
     simp at hz
     exact hz.1
    exfalso
    have h' : pre.foldl (fun (o : Option Val) x => o.bind (fun u => (FO x u).getD none)) ((FO q v).getD none) = some u := hu
    rw [hF, Go.Proofs.YtinkbljjpafadaaTab.zhz (fun x u => (FO x u).getD none)] at h'
    cases h'
  | some v' =>
   obtain ⟨h1, h2⟩ := zao.zkC FO r v' res h
   refine ⟨(Go.Proofs.YtinkbljjpafadaaTab.zgc hF r).trans h1, fun pre x u hp hu => ?_⟩
   cases pre with
   | nil =>
    obtain rfl : x = y := by
     obtain ⟨z, hz⟩ := hp
     simp at hz
     exact hz.1
    obtain rfl := Option.some.inj hu
    exact ⟨_, ho⟩
   | cons q pre =>
    obtain ⟨z, hz⟩ := hp
    simp only [List.cons_append, List.cons.injEq] at hz
    obtain ⟨rfl, hz⟩ := hz
    refine h2 pre x u ⟨z, hz⟩ ?_
    have h' : pre.foldl (fun (o : Option Val) x => o.bind (fun u => (FO x u).getD none)) ((FO q v).getD none) = some u := hu
    rw [hF] at h'
    exact h'
open Go.Proofs.YtinkbljjpafadaaTab in
theorem zao.zhL {FO FO' : S35 → Val → Option (Option Val)} (h : ∀ x v, LeO (FO x v) (FO' x v)) : ∀ l v, LeO (zao.run FO l v) (zao.run FO' l v)
 | [], v => LeO.refl _
 | x :: r, v => LeO.bind (h x v) (fun o => by
  cases o with
  | none => exact LeO.refl _
  | some v' => exact zao.zhL h r v')
open Go.Proofs.YtinkbljjpafadaaTab in
def zao.fits (l0 : List (S64)) (l : List (S35)) : Bool := zaY.small l0 && decide (l.length < 4398046511104) && l.all (fun x => decide ((zb5 l0 x.f1).length < 4398046511104))
open Go.Proofs.YtinkbljjpafadaaTab in
def zao.f (k : Nat) (l0 : List (S64)) (a1_0 a1_1 a1_2 : Int) (a1_3 : ByteArray) (l1_4 : List (S35)) (a2 : ByteArray) (a3 : Int) (a4_0 a4_1 a4_2 : Int) (a4_3 : ByteArray) (l4_4 : List (S35)) (a5 a6 : Bool) : Option (Int × Int × Int × ByteArray × List (S35) × Int) :=
 (zaZ.f l4_4).bind fun ch => if a1_0 = 7 then (if zao.fits l0 l1_4 = true then (zao.run (zao.step k l0 a2 a3 a5 a6) (wl a6 l1_4) (a4_0, a4_1, a4_2, a4_3, ch)).bind fun r => some (zaI.out r.2 r.1) else none) else some (a4_0, a4_1, a4_2, a4_3, ch, 0)
open Go.Proofs.YtinkbljjpafadaaTab in
theorem zao.ziS (k : Nat) (l0 : List (S64)) (mem : ByteArray) (param : Int) (merged inn : Bool) (x : S35) (v : Val) : LeO (zao.step k l0 mem param merged inn x v) (zao.step (k + 1) l0 mem param merged inn x v) := by
 unfold zao.step
 exact LeO.ite (LeO.refl _) (LeO.ite (LeO.bind (zav.mono _ _ _ _ _ _ _ _ _ k) (fun _ => LeO.refl _)) (zaI.zhJ _ _ _ _ _ _ _ _ _ k))
theorem zao.mono : ∀ l0 a1_0 a1_1 a1_2 a1_3 l1_4 a2 a3 a4_0 a4_1 a4_2 a4_3 l4_4 a5 a6 k, LeO (zao.f k l0 a1_0 a1_1 a1_2 a1_3 l1_4 a2 a3 a4_0 a4_1 a4_2 a4_3 l4_4 a5 a6) (zao.f (k + 1) l0 a1_0 a1_1 a1_2 a1_3 l1_4 a2 a3 a4_0 a4_1 a4_2 a4_3 l4_4 a5 a6) := by
 intro l0 a1_0 a1_1 a1_2 a1_3 l1_4 a2 a3 a4_0 a4_1 a4_2 a4_3 l4_4 a5 a6 k
 unfold zao.f
 exact LeO.bind (LeO.refl _) (fun ch => LeO.ite (LeO.ite (LeO.bind (zao.zhL (fun x v => zao.ziS k l0 a2 a3 a5 a6 x v) _ _) (fun r => LeO.refl _)) (LeO.refl _)) (LeO.refl _))
open Go.Proofs.YtinkbljjpafadaaTab in
theorem zao.calls (k : Nat) (A0 : Option Addr) (c0 : Nat) (l0 : List (S64)) (a1_0 a1_1 a1_2 : Int) (a1_3 : ByteArray) (A1_4 : Option Addr) (c1_4 : Nat) (l1_4 : List (S35)) (a2 : ByteArray) (a3 : Int) (a4_0 a4_1 a4_2 : Int) (a4_3 : ByteArray) (A4_4 : Option Addr) (c4_4 : Nat) (l4_4 : List (S35)) (a5 a6 : Bool) (r1 r2 r3 : Int) (r4 : ByteArray) (r5 : List (S35)) (r6 : Int) (w : World) (hr0 : Kd.C k64 w A0 l0.length l0) (hc0 : l0.length ≤ c0) (hr1_4 : Kd.C k35 w A1_4 l1_4.length l1_4) (hc1_4 : l1_4.length ≤ c1_4) (hr4_4 : Kd.C k35 w A4_4 l4_4.length l4_4) (hc4_4 : l4_4.length ≤ c4_4) (h : zao.f k l0 a1_0 a1_1 a1_2 a1_3 l1_4 a2 a3 a4_0 a4_1 a4_2 a4_3 l4_4 a5 a6 = some (r1, r2, r3, r4, r5, r6)) :
  Calls Try.prog 37 #[.slice A0 l0.length c0, .agg #[.int .i64 a1_0, .int .i64 a1_1, .int .u64 a1_2, .string a1_3, .slice A1_4 l1_4.length c1_4], .string a2, .int .i64 a3, .agg #[.int .i64 a4_0, .int .i64 a4_1, .int .u64 a4_2, .string a4_3, .slice A4_4 l4_4.length c4_4], .bool a5, .bool a6] w fun e w' => ∃ v4_ : Value, e = .returned (.tuple #[.agg #[.int .i64 r1, .int .i64 r2, .int .u64 r3, .string r4, v4_], .int .i64 r6]) ∧ Kd.R k35 35 w' w.heap.size (fun _ => True) v4_ r5 ∧ Below w.heap.size w w' := by
 unfold zao.f at h
 replace h := Option.bind_eq_some_iff.1 h
 obtain ⟨ch, hch, h⟩ := h
 obtain rfl := zaI.clone hch
 have hcl : ∀ w', Below w.heap.size w w' → Calls Try.prog 52 #[.slice A4_4 ch.length c4_4] w' fun e w'' => ∃ v, e = .returned v ∧ Kd.R k35 35 w'' w'.heap.size (fun _ => True) v ch ∧ Below w'.heap.size w' w'' :=
  fun w' hb => zaZ.calls A4_4 c4_4 ch ch w' (Kd.zat hr4_4 hb) hc4_4 hch
 by_cases h7 : a1_0 = 7
 ·
  rw [if_pos h7] at h
  by_cases hf : zao.fits l0 l1_4 = true
  ·
   rw [if_pos hf] at h
   obtain ⟨res, hres, h⟩ := Option.bind_eq_some_iff.1 h
   obtain ⟨hT, hS⟩ := zao.zkC _ _ _ _ hres
   unfold zao.fits at hf
   simp only [Bool.and_eq_true, decide_eq_true_eq, List.all_eq_true] at hf
   obtain ⟨⟨hf1, hf2⟩, hf3⟩ := hf
   refine (zdC A0 c0 l0.length a5 a6 a2 a3 a1_0 a1_1 a1_2 a1_3 A1_4 c1_4 l1_4.length a4_0 a4_1 a4_2 a4_3 A4_4 c4_4 ch.length res.2 res.1 w (fun w1 w' hb1 hb' hlt bv bo bi bt bm bp bg hnv hbo hv hcap => ?_)).mono ?_
   ·
    have hw' : Below w.heap.size w w' := hb1.trans (hb'.mono hb1.size)
    have := ze4 A0 c0 l0 a5 a6 a2 a3 a1_0 a1_1 a1_2 a1_3 A1_4 c1_4 l1_4 a4_0 a4_1 a4_2 a4_3 A4_4 c4_4 ch (fun x u => (zao.step k l0 a2 a3 a5 a6 x u).getD none) w' w.heap.size bv bo bi bt bm bp bg hw'.size hnv hbo hv hcap
     (fun w2 hb2 => Kd.zat hr0 (hw'.trans hb2)) (fun w2 hb2 => Kd.zat hr1_4 (hw'.trans hb2)) (fun w2 hb2 => hcl w2 (hw'.trans hb2)) (zaY.zhK hf1) hf3 hf2 h7 ?_
    ·
     rw [hT] at this
     exact this
    ·
     intro pre x u1 u2 u3 u4 ul hp hu
     obtain ⟨o, ho⟩ := hS pre x _ hp hu
     have hF : (zao.step k l0 a2 a3 a5 a6 x (u1, u2, u3, u4, ul)).getD none = o := by rw [ho]; rfl
     unfold zao.step at ho
     by_cases ht : (zbD l0 x.f1 a2 a3).2 = false
     ·
      rw [if_pos ht] at ho
      exact .inl ⟨ht, by rw [hF]; exact (Option.some.inj ho).symm⟩
     ·
      rw [if_neg ht] at ho
      refine .inr ⟨by simpa using ht, fun w2 A cc hb2 hC hcc => ?_⟩
      rw [hF]
      by_cases hx : x.f0 = a6
      ·
       rw [if_pos hx] at ho ⊢
       obtain ⟨r, hr, ho⟩ := Option.bind_eq_some_iff.1 ho
       obtain rfl := Option.some.inj ho
       obtain ⟨q1, q2, q3, q4, q5⟩ := r
       exact zav.calls k A0 c0 l0 a5 x.f2 u1 u2 u3 u4 A cc ul _ q1 q2 q3 q4 q5 w2 (Kd.zat hr0 (hw'.trans hb2)) hc0 hC hcc hr
      ·
       rw [if_neg hx] at ho ⊢
       exact zaI.tells k A0 c0 l0 u1 u2 u3 u4 A cc ul _ x.f2 a5 o w2 (Kd.zat hr0 (hw'.trans hb2)) hc0 hC hcc ho
   ·
    intro e w' hE
    obtain ⟨o, lab⟩ := res
    cases o with
    | none =>
     simp only [zaI.out, Option.some.injEq, Prod.mk.injEq] at h
     obtain ⟨rfl, rfl, rfl, rfl, rfl, rfl⟩ := h
     obtain ⟨rfl, hb⟩ := hE
     exact ⟨_, rfl, Kd.R_nil _ _ _ _ _, hb⟩
    | some o =>
     obtain ⟨x1, x2, x3, x4, x5⟩ := o
     simp only [zaI.out, Option.some.injEq, Prod.mk.injEq] at h
     obtain ⟨rfl, rfl, rfl, rfl, rfl, rfl⟩ := h
     obtain ⟨v, rfl, hR, hb⟩ := hE
     exact ⟨v, rfl, hR, hb⟩
  ·
   rw [if_neg hf] at h; cases h
 ·
  rw [if_neg h7] at h
  simp only [Option.some.injEq, Prod.mk.injEq] at h
  obtain ⟨rfl, rfl, rfl, rfl, rfl, rfl⟩ := h
  refine (zdC A0 c0 l0.length a5 a6 a2 a3 a1_0 a1_1 a1_2 a1_3 A1_4 c1_4 l1_4.length a4_0 a4_1 a4_2 a4_3 A4_4 c4_4 ch.length 0 (some (a4_0, a4_1, a4_2, a4_3, ch)) w (fun w1 w' hb1 hb' hlt bv bo bi bt bm bp bg hnv hbo hv hcap => ?_)).mono ?_
  ·
   have hw' : Below w.heap.size w w' := hb1.trans (hb'.mono hb1.size)
   exact zfV A0 c0 l0 a5 a6 a2 a3 a1_0 a1_1 a1_2 a1_3 A1_4 c1_4 l1_4 a4_0 a4_1 a4_2 a4_3 A4_4 c4_4 ch w' w.heap.size bv bo bi bt bm bp bg hw'.size hnv hbo hv hcap (fun w2 hb2 => hcl w2 (hw'.trans hb2)) h7
  ·
   rintro e w' ⟨v, rfl, hR, hb⟩
   exact ⟨v, rfl, hR, hb⟩
def zbe.f (k : Nat) (l0 : List (S64)) (a1_0 : Int) (a1_1 : Int) (a1_2 : Int) (a1_3 : ByteArray) (l1_4 : List (S35)) (a2 : ByteArray) (a3 : Int) (a4_0 : Int) (a4_1 : Int) (a4_2 : Int) (a4_3 : ByteArray) (l4_4 : List (S35)) (a5 : Bool) : Option (Int × Int × Int × ByteArray × (List (S35)) × Int) := if a3 < 0 then ((zao.f k l0 a1_0 a1_1 a1_2 a1_3 l1_4 a2 (-2) a4_0 a4_1 a4_2 a4_3 l4_4 a5 true).bind fun bt233 => (some (bt233.1, bt233.2.1, bt233.2.2.1, bt233.2.2.2.1, bt233.2.2.2.2.1, bt233.2.2.2.2.2))) else ((zao.f k l0 a1_0 a1_1 a1_2 a1_3 l1_4 a2 a3 a4_0 a4_1 a4_2 a4_3 l4_4 a5 true).bind fun bt241 => (some (bt241.1, bt241.2.1, bt241.2.2.1, bt241.2.2.2.1, bt241.2.2.2.2.1, bt241.2.2.2.2.2)))
theorem zbe.mono : ∀ a0 a1 a2 a3 a4 a5 a6 a7 a8 a9 a10 a11 a12 a13 k, LeO (zbe.f k a0 a1 a2 a3 a4 a5 a6 a7 a8 a9 a10 a11 a12 a13) (zbe.f (k + 1) a0 a1 a2 a3 a4 a5 a6 a7 a8 a9 a10 a11 a12 a13) := by
 intro a0 a1 a2 a3 a4 a5 a6 a7 a8 a9 a10 a11 a12 a13 k
 unfold zbe.f
 repeat' first
   | (with_reducible exact zao.mono _ _ _ _ _ _ _ _ _ _ _ _ _ _ _ _)
   | (with_reducible exact LeO.refl _)
   | (with_reducible exact LeO.none _)
   | (with_reducible refine LeO.ite ?_ ?_)
   | (with_reducible refine LeO.bind ?_ (fun _ => ?_))
   | exact zao.mono _ _ _ _ _ _ _ _ _ _ _ _ _ _ _ _
   | exact LeO.none _
   | refine LeO.ite ?_ ?_
   | refine LeO.bind ?_ (fun _ => ?_)
theorem zbe.calls (k : Nat) (A0 : Option Addr) (c0 : Nat) (l0 : List (S64)) (a1_0 : Int) (a1_1 : Int) (a1_2 : Int) (a1_3 : ByteArray) (A1_4 : Option Addr) (c1_4 : Nat) (l1_4 : List (S35)) (a2 : ByteArray) (a3 : Int) (a4_0 : Int) (a4_1 : Int) (a4_2 : Int) (a4_3 : ByteArray) (A4_4 : Option Addr) (c4_4 : Nat) (l4_4 : List (S35)) (a5 : Bool) (r1 : Int) (r2 : Int) (r3 : Int) (r4 : ByteArray) (r5 : List (S35)) (r6 : Int) (w : World) (hr0 : Kd.C k64 w A0 l0.length l0) (hc0 : l0.length ≤ c0) (hr1_4 : Kd.C k35 w A1_4 l1_4.length l1_4) (hc1_4 : l1_4.length ≤ c1_4) (hr4_4 : Kd.C k35 w A4_4 l4_4.length l4_4) (hc4_4 : l4_4.length ≤ c4_4) (h : zbe.f k l0 a1_0 a1_1 a1_2 a1_3 l1_4 a2 a3 a4_0 a4_1 a4_2 a4_3 l4_4 a5 = some (r1, r2, r3, r4, r5, r6)) :
  Calls Try.prog 16 #[.slice A0 l0.length c0, .agg #[.int .i64 a1_0, .int .i64 a1_1, .int .u64 a1_2, .string a1_3, .slice A1_4 l1_4.length c1_4], .string a2, .int .i64 a3, .agg #[.int .i64 a4_0, .int .i64 a4_1, .int .u64 a4_2, .string a4_3, .slice A4_4 l4_4.length c4_4], .bool a5] w fun e w' => ∃ v4_ : Value, e = .returned (.tuple #[.agg #[.int .i64 r1, .int .i64 r2, .int .u64 r3, .string r4, v4_], .int .i64 r6]) ∧ Kd.R k35 35 w' w.heap.size (fun _ => True) v4_ r5 ∧ Below w.heap.size w w' := by
 have hu27 := Try.underlying27
 have HR0 := zaa.mk hr0
 have HC0 := zaa.mk hc0
 clear hr0 hc0
 have HR1_4 := zaa.mk hr1_4
 have HC1_4 := zaa.mk hc1_4
 clear hr1_4 hc1_4
 have HR4_4 := zaa.mk hr4_4
 have HC4_4 := zaa.mk hc4_4
 clear hr4_4 hc4_4
 have HB := zaa.mk (Below.refl w.heap.size w)
 have H : (if a3 < 0 then ((zao.f k l0 a1_0 a1_1 a1_2 a1_3 l1_4 a2 (-2) a4_0 a4_1 a4_2 a4_3 l4_4 a5 true).bind fun bt233 => (some (bt233.1, bt233.2.1, bt233.2.2.1, bt233.2.2.2.1, bt233.2.2.2.2.1, bt233.2.2.2.2.2))) else ((zao.f k l0 a1_0 a1_1 a1_2 a1_3 l1_4 a2 a3 a4_0 a4_1 a4_2 a4_3 l4_4 a5 true).bind fun bt241 => (some (bt241.1, bt241.2.1, bt241.2.2.1, bt241.2.2.2.1, bt241.2.2.2.2.1, bt241.2.2.2.2.2)))) = some (r1, r2, r3, r4, r5, r6) := h
 clear h
 by_cases c7 : a3 < 0
 ·
  rw [if_pos c7] at H
  have c7b0 : decide (a3 < 0) = true := decide_eq_true c7
  clear c7
  replace H := Option.bind_eq_some_iff.mp H
  obtain ⟨⟨t233, t234, t235, t236, t237, t240⟩, A80, H⟩ := H
  replace H : (some (t233, t234, t235, t236, t237, t240)) = some (r1, r2, r3, r4, r5, r6) := H
  have A8 := zaa.mk A80
  clear A80
  simp only [Option.some.injEq, Prod.mk.injEq] at H
  obtain ⟨rfl, rfl, rfl, rfl, rfl, rfl⟩ := H
  go_enter Try.func16, Try.ntmps16
  go_wp2_with (first | ((with_reducible refine zaL (N := 7) rfl ?_); refine zbq (N := 7) (cs := #[.int .i64 a1_0, .int .i64 a1_1, .int .u64 a1_2, .string a1_3, .slice A1_4 l1_4.length c1_4]) (t := 27) ?_; intro gb230 hg w9 hbox hb; have BK230 := zaa.mk (hbox); have GW230 := zaa.mk (gw hg (bl HB.out) : w.heap.size ≤ gb230); have GE230 := GW230; replace HB := zaa.mk (zan (bl HB.out) hb); clear hb hbox hg) | ((with_reducible refine zaL (N := 10) rfl ?_); refine zbq (N := 10) (cs := #[.int .i64 a4_0, .int .i64 a4_1, .int .u64 a4_2, .string a4_3, .slice A4_4 l4_4.length c4_4]) (t := 27) ?_; intro gb231 hg w10 hbox hb; have BK231 := zaa.mk (hbox); have GW231 := zaa.mk (gw hg (bl HB.out) : w.heap.size ≤ gb231); have GE231 := GW231; have NB230_231 := zaa.mk (nl hg BK230.out : gb230 ≠ gb231); have NB231_230 := zaa.mk (ng hg BK230.out : gb231 ≠ gb230); replace BK230 := zaa.mk (zaq (bk BK230.out) hb); replace HB := zaa.mk (zan (bl HB.out) hb); clear hb hbox hg) | ((with_reducible refine zaL (N := 12) rfl ?_); refine zbq (N := 12) (cs := #[.int .i64 0, .int .i64 0, .int .u64 0, .string (⟨#[]⟩ : ByteArray), .slice none 0 0]) (t := 27) ?_; intro gb232 hg w11 hbox hb; have BK232 := zaa.mk (hbox); have GW232 := zaa.mk (gw hg (bl HB.out) : w.heap.size ≤ gb232); have GE232 := GW232; have NB230_232 := zaa.mk (nl hg BK230.out : gb230 ≠ gb232); have NB232_230 := zaa.mk (ng hg BK230.out : gb232 ≠ gb230); have NB231_232 := zaa.mk (nl hg BK231.out : gb231 ≠ gb232); have NB232_231 := zaa.mk (ng hg BK231.out : gb232 ≠ gb231); replace BK230 := zaa.mk (zaq (bk BK230.out) hb); replace BK231 := zaa.mk (zaq (bk BK231.out) hb); replace HB := zaa.mk (zan (bl HB.out) hb); clear hb hbox hg; have hnb12 := NB230_231.out; have hnc12 := NB231_230.out; have hnb13 := NB230_232.out; have hnc13 := NB232_230.out; have hcz14_0 : w11.cell? ⟨gb230, 0, none⟩ = some (.int .i64 a1_0) := (zac BK230.out 0).trans rfl; have hcz14_1 : w11.cell? ⟨gb230, 1, none⟩ = some (.int .i64 a1_1) := (zac BK230.out 1).trans rfl; have hcz14_2 : w11.cell? ⟨gb230, 2, none⟩ = some (.int .u64 a1_2) := (zac BK230.out 2).trans rfl; have hcz14_3 : w11.cell? ⟨gb230, 3, none⟩ = some (.string a1_3) := (zac BK230.out 3).trans rfl; have hcz14_4 : w11.cell? ⟨gb230, 4, none⟩ = some (.slice A1_4 l1_4.length c1_4) := (zac BK230.out 4).trans rfl; have hfz14_0 := zab BK230.out 0; have hfz14_1 := zab BK230.out 1; have hfz14_2 := zab BK230.out 2; have hfz14_3 := zab BK230.out 3; have hfz14_4 := zab BK230.out 4; have hnb15 := NB231_232.out; have hnc15 := NB232_231.out; have hcz16_0 : w11.cell? ⟨gb231, 0, none⟩ = some (.int .i64 a4_0) := (zac BK231.out 0).trans rfl; have hcz16_1 : w11.cell? ⟨gb231, 1, none⟩ = some (.int .i64 a4_1) := (zac BK231.out 1).trans rfl; have hcz16_2 : w11.cell? ⟨gb231, 2, none⟩ = some (.int .u64 a4_2) := (zac BK231.out 2).trans rfl; have hcz16_3 : w11.cell? ⟨gb231, 3, none⟩ = some (.string a4_3) := (zac BK231.out 3).trans rfl; have hcz16_4 : w11.cell? ⟨gb231, 4, none⟩ = some (.slice A4_4 l4_4.length c4_4) := (zac BK231.out 4).trans rfl; have hfz16_0 := zab BK231.out 0; have hfz16_1 := zab BK231.out 1; have hfz16_2 := zab BK231.out 2; have hfz16_3 := zab BK231.out 3; have hfz16_4 := zab BK231.out 4) | ((with_reducible refine za4 (f := 37) rfl ?_); refine zbX (some 22) rfl rfl Try.func37 k9 rfl #[.slice A0 l0.length c0, .agg #[.int .i64 a1_0, .int .i64 a1_1, .int .u64 a1_2, .string a1_3, .slice A1_4 l1_4.length c1_4], .string a2, .int .i64 (-2), .agg #[.int .i64 a4_0, .int .i64 a4_1, .int .u64 a4_2, .string a4_3, .slice A4_4 l4_4.length c4_4], .bool a5, .bool true] rfl m9 ?_; (with_reducible refine (zao.calls k _ _ l0 a1_0 a1_1 a1_2 a1_3 _ _ l1_4 a2 (-2) a4_0 a4_1 a4_2 a4_3 _ _ l4_4 a5 true t233 t234 t235 t236 t237 t240 _ ?side1 ?side2 ?side3 ?side4 ?side5 ?side6 A8.out).mono ?_); (case side1 => repeat (first | exact (Kd.zat HR0.out HB.out) | (with_reducible refine Kd.zbr ?_ _) | (with_reducible refine Kd.zbx ?_ _) | (with_reducible refine Kd.zbu ?_))); (case side2 => exact HC0.out); (case side3 => repeat (first | exact (Kd.zat HR1_4.out HB.out) | (with_reducible refine Kd.zbr ?_ _) | (with_reducible refine Kd.zbx ?_ _) | (with_reducible refine Kd.zbu ?_))); (case side4 => exact HC1_4.out); (case side5 => repeat (first | exact (Kd.zat HR4_4.out HB.out) | (with_reducible refine Kd.zbr ?_ _) | (with_reducible refine Kd.zbx ?_ _) | (with_reducible refine Kd.zbu ?_))); (case side6 => exact HC4_4.out); rintro e w17 ⟨v238, rfl, ho0, hb⟩; refine ⟨_, rfl, ?_⟩; have HO239 := zaa.mk (Kd.zbi ho0 (zaO (bl HB.out))); replace BK230 := zaa.mk (zaq (bk BK230.out) hb); replace BK231 := zaa.mk (zaq (bk BK231.out) hb); replace BK232 := zaa.mk (zaq (bk BK232.out) hb); replace HB := zaa.mk (zan (bl HB.out) hb); (try clear hb); (try clear hb2); (try clear hk); (try clear hi); (try clear ho0); have hcz18_0 : w17.cell? ⟨gb232, 0, none⟩ = some (.int .i64 0) := (zac BK232.out 0).trans rfl; have hcz18_1 : w17.cell? ⟨gb232, 1, none⟩ = some (.int .i64 0) := (zac BK232.out 1).trans rfl; have hcz18_2 : w17.cell? ⟨gb232, 2, none⟩ = some (.int .u64 0) := (zac BK232.out 2).trans rfl; have hcz18_3 : w17.cell? ⟨gb232, 3, none⟩ = some (.string (⟨#[]⟩ : ByteArray)) := (zac BK232.out 3).trans rfl; have hcz18_4 : w17.cell? ⟨gb232, 4, none⟩ = some (.slice none 0 0) := (zac BK232.out 4).trans rfl; have hfz18_0 := zab BK232.out 0; have hfz18_1 := zab BK232.out 1; have hfz18_2 := zab BK232.out 2; have hfz18_3 := zab BK232.out 3; have hfz18_4 := zab BK232.out 4; obtain ⟨Ao19, co19, eo19⟩ := Kd.zbj HO239.out; subst eo19))
  refine bodyPost_ret (zch rfl _ _ gb232 27 #[.int .i64 t233, .int .i64 t234, .int .u64 t235, .string t236, .slice Ao19 t237.length co19] (0, 0) _ rfl (bp BK232.out) Try.underlying27 rfl k9) rfl ?_
  exact ⟨_, by first | rfl | (simp [zaz, zaA] <;> rfl) | (simp [*, zaz, zaA] <;> rfl), by (with_reducible repeat (first | apply Kd.zbt | apply Kd.zbA | apply Kd.zbN)); exact Kd.za0 (Kd.R_far (p := ⟨gb232, 4, none⟩) (Kd.R_far (p := ⟨gb232, 3, none⟩) (Kd.R_far (p := ⟨gb232, 2, none⟩) (Kd.R_far (p := ⟨gb232, 1, none⟩) (Kd.R_far (p := ⟨gb232, 0, none⟩) (Kd.zbJ HO239.out BK232.out d9) (fun _ hk => hk.2) (.int .i64 t233)) (fun _ hk => hk.2) (.int .i64 t234)) (fun _ hk => hk.2) (.int .u64 t235)) (fun _ hk => hk.2) (.string t236)) (fun _ hk => hk.2) (.slice Ao19 t237.length co19)) (fun _ hk => trivial), bl HB.out⟩
 ·
  rw [if_neg c7] at H
  have c7b0 : decide (a3 < 0) = false := decide_eq_false c7
  clear c7
  replace H := Option.bind_eq_some_iff.mp H
  obtain ⟨⟨t241, t242, t243, t244, t245, t248⟩, A200, H⟩ := H
  replace H : (some (t241, t242, t243, t244, t245, t248)) = some (r1, r2, r3, r4, r5, r6) := H
  have A20 := zaa.mk A200
  clear A200
  simp only [Option.some.injEq, Prod.mk.injEq] at H
  obtain ⟨rfl, rfl, rfl, rfl, rfl, rfl⟩ := H
  go_enter Try.func16, Try.ntmps16
  go_wp2_with (first | ((with_reducible refine zaL (N := 7) rfl ?_); refine zbq (N := 7) (cs := #[.int .i64 a1_0, .int .i64 a1_1, .int .u64 a1_2, .string a1_3, .slice A1_4 l1_4.length c1_4]) (t := 27) ?_; intro gb230 hg w21 hbox hb; have BK230 := zaa.mk (hbox); have GW230 := zaa.mk (gw hg (bl HB.out) : w.heap.size ≤ gb230); have GE230 := GW230; replace HB := zaa.mk (zan (bl HB.out) hb); clear hb hbox hg) | ((with_reducible refine zaL (N := 10) rfl ?_); refine zbq (N := 10) (cs := #[.int .i64 a4_0, .int .i64 a4_1, .int .u64 a4_2, .string a4_3, .slice A4_4 l4_4.length c4_4]) (t := 27) ?_; intro gb231 hg w22 hbox hb; have BK231 := zaa.mk (hbox); have GW231 := zaa.mk (gw hg (bl HB.out) : w.heap.size ≤ gb231); have GE231 := GW231; have NB230_231 := zaa.mk (nl hg BK230.out : gb230 ≠ gb231); have NB231_230 := zaa.mk (ng hg BK230.out : gb231 ≠ gb230); replace BK230 := zaa.mk (zaq (bk BK230.out) hb); replace HB := zaa.mk (zan (bl HB.out) hb); clear hb hbox hg) | ((with_reducible refine zaL (N := 12) rfl ?_); refine zbq (N := 12) (cs := #[.int .i64 0, .int .i64 0, .int .u64 0, .string (⟨#[]⟩ : ByteArray), .slice none 0 0]) (t := 27) ?_; intro gb232 hg w23 hbox hb; have BK232 := zaa.mk (hbox); have GW232 := zaa.mk (gw hg (bl HB.out) : w.heap.size ≤ gb232); have GE232 := GW232; have NB230_232 := zaa.mk (nl hg BK230.out : gb230 ≠ gb232); have NB232_230 := zaa.mk (ng hg BK230.out : gb232 ≠ gb230); have NB231_232 := zaa.mk (nl hg BK231.out : gb231 ≠ gb232); have NB232_231 := zaa.mk (ng hg BK231.out : gb232 ≠ gb231); replace BK230 := zaa.mk (zaq (bk BK230.out) hb); replace BK231 := zaa.mk (zaq (bk BK231.out) hb); replace HB := zaa.mk (zan (bl HB.out) hb); clear hb hbox hg; have hnb24 := NB230_231.out; have hnc24 := NB231_230.out; have hnb25 := NB230_232.out; have hnc25 := NB232_230.out; have hcz26_0 : w23.cell? ⟨gb230, 0, none⟩ = some (.int .i64 a1_0) := (zac BK230.out 0).trans rfl; have hcz26_1 : w23.cell? ⟨gb230, 1, none⟩ = some (.int .i64 a1_1) := (zac BK230.out 1).trans rfl; have hcz26_2 : w23.cell? ⟨gb230, 2, none⟩ = some (.int .u64 a1_2) := (zac BK230.out 2).trans rfl; have hcz26_3 : w23.cell? ⟨gb230, 3, none⟩ = some (.string a1_3) := (zac BK230.out 3).trans rfl; have hcz26_4 : w23.cell? ⟨gb230, 4, none⟩ = some (.slice A1_4 l1_4.length c1_4) := (zac BK230.out 4).trans rfl; have hfz26_0 := zab BK230.out 0; have hfz26_1 := zab BK230.out 1; have hfz26_2 := zab BK230.out 2; have hfz26_3 := zab BK230.out 3; have hfz26_4 := zab BK230.out 4; have hnb27 := NB231_232.out; have hnc27 := NB232_231.out; have hcz28_0 : w23.cell? ⟨gb231, 0, none⟩ = some (.int .i64 a4_0) := (zac BK231.out 0).trans rfl; have hcz28_1 : w23.cell? ⟨gb231, 1, none⟩ = some (.int .i64 a4_1) := (zac BK231.out 1).trans rfl; have hcz28_2 : w23.cell? ⟨gb231, 2, none⟩ = some (.int .u64 a4_2) := (zac BK231.out 2).trans rfl; have hcz28_3 : w23.cell? ⟨gb231, 3, none⟩ = some (.string a4_3) := (zac BK231.out 3).trans rfl; have hcz28_4 : w23.cell? ⟨gb231, 4, none⟩ = some (.slice A4_4 l4_4.length c4_4) := (zac BK231.out 4).trans rfl; have hfz28_0 := zab BK231.out 0; have hfz28_1 := zab BK231.out 1; have hfz28_2 := zab BK231.out 2; have hfz28_3 := zab BK231.out 3; have hfz28_4 := zab BK231.out 4) | ((with_reducible refine za4 (f := 37) rfl ?_); refine zbX (some 22) rfl rfl Try.func37 k9 rfl #[.slice A0 l0.length c0, .agg #[.int .i64 a1_0, .int .i64 a1_1, .int .u64 a1_2, .string a1_3, .slice A1_4 l1_4.length c1_4], .string a2, .int .i64 a3, .agg #[.int .i64 a4_0, .int .i64 a4_1, .int .u64 a4_2, .string a4_3, .slice A4_4 l4_4.length c4_4], .bool a5, .bool true] rfl m9 ?_; (with_reducible refine (zao.calls k _ _ l0 a1_0 a1_1 a1_2 a1_3 _ _ l1_4 a2 a3 a4_0 a4_1 a4_2 a4_3 _ _ l4_4 a5 true t241 t242 t243 t244 t245 t248 _ ?side1 ?side2 ?side3 ?side4 ?side5 ?side6 A20.out).mono ?_); (case side1 => repeat (first | exact (Kd.zat HR0.out HB.out) | (with_reducible refine Kd.zbr ?_ _) | (with_reducible refine Kd.zbx ?_ _) | (with_reducible refine Kd.zbu ?_))); (case side2 => exact HC0.out); (case side3 => repeat (first | exact (Kd.zat HR1_4.out HB.out) | (with_reducible refine Kd.zbr ?_ _) | (with_reducible refine Kd.zbx ?_ _) | (with_reducible refine Kd.zbu ?_))); (case side4 => exact HC1_4.out); (case side5 => repeat (first | exact (Kd.zat HR4_4.out HB.out) | (with_reducible refine Kd.zbr ?_ _) | (with_reducible refine Kd.zbx ?_ _) | (with_reducible refine Kd.zbu ?_))); (case side6 => exact HC4_4.out); rintro e w29 ⟨v246, rfl, ho0, hb⟩; refine ⟨_, rfl, ?_⟩; have HO247 := zaa.mk (Kd.zbi ho0 (zaO (bl HB.out))); replace BK230 := zaa.mk (zaq (bk BK230.out) hb); replace BK231 := zaa.mk (zaq (bk BK231.out) hb); replace BK232 := zaa.mk (zaq (bk BK232.out) hb); replace HB := zaa.mk (zan (bl HB.out) hb); (try clear hb); (try clear hb2); (try clear hk); (try clear hi); (try clear ho0); have hcz30_0 : w29.cell? ⟨gb232, 0, none⟩ = some (.int .i64 0) := (zac BK232.out 0).trans rfl; have hcz30_1 : w29.cell? ⟨gb232, 1, none⟩ = some (.int .i64 0) := (zac BK232.out 1).trans rfl; have hcz30_2 : w29.cell? ⟨gb232, 2, none⟩ = some (.int .u64 0) := (zac BK232.out 2).trans rfl; have hcz30_3 : w29.cell? ⟨gb232, 3, none⟩ = some (.string (⟨#[]⟩ : ByteArray)) := (zac BK232.out 3).trans rfl; have hcz30_4 : w29.cell? ⟨gb232, 4, none⟩ = some (.slice none 0 0) := (zac BK232.out 4).trans rfl; have hfz30_0 := zab BK232.out 0; have hfz30_1 := zab BK232.out 1; have hfz30_2 := zab BK232.out 2; have hfz30_3 := zab BK232.out 3; have hfz30_4 := zab BK232.out 4; obtain ⟨Ao31, co31, eo31⟩ := Kd.zbj HO247.out; subst eo31))
  refine bodyPost_ret (zch rfl _ _ gb232 27 #[.int .i64 t241, .int .i64 t242, .int .u64 t243, .string t244, .slice Ao31 t245.length co31] (0, 0) _ rfl (bp BK232.out) Try.underlying27 rfl k9) rfl ?_
  exact ⟨_, by first | rfl | (simp [zaz, zaA] <;> rfl) | (simp [*, zaz, zaA] <;> rfl), by (with_reducible repeat (first | apply Kd.zbt | apply Kd.zbA | apply Kd.zbN)); exact Kd.za0 (Kd.R_far (p := ⟨gb232, 4, none⟩) (Kd.R_far (p := ⟨gb232, 3, none⟩) (Kd.R_far (p := ⟨gb232, 2, none⟩) (Kd.R_far (p := ⟨gb232, 1, none⟩) (Kd.R_far (p := ⟨gb232, 0, none⟩) (Kd.zbJ HO247.out BK232.out d9) (fun _ hk => hk.2) (.int .i64 t241)) (fun _ hk => hk.2) (.int .i64 t242)) (fun _ hk => hk.2) (.int .u64 t243)) (fun _ hk => hk.2) (.string t244)) (fun _ hk => hk.2) (.slice Ao31 t245.length co31)) (fun _ hk => trivial), bl HB.out⟩
def zbO.f (a0 : ByteArray) (a1 : Int) : Option (Bool × ByteArray × Int) := some (true, a0, a1)
theorem zbO.calls (a0 : ByteArray) (a1 : Int) (r1 : Bool) (r2 : ByteArray) (r3 : Int) (w : World) (h : zbO.f a0 a1 = some (r1, r2, r3)) :
  Calls Try.prog 17 #[.string a0, .int .i64 a1] w fun e w' => e = .returned (.agg #[.bool r1, .string r2, .int .i64 r3]) ∧ Below w.heap.size w w' := by
 have hu35 := Try.underlying35
 have HB := zaa.mk (Below.refl w.heap.size w)
 have H : (some (true, a0, a1)) = some (r1, r2, r3) := h
 clear h
 simp only [Option.some.injEq, Prod.mk.injEq] at H
 obtain ⟨rfl, rfl, rfl⟩ := H
 go_enter Try.func17, Try.ntmps17
 go_wp2_with (first | ((with_reducible refine zaL (N := 4) rfl ?_); refine zbq (N := 4) (cs := #[.bool false, .string (⟨#[]⟩ : ByteArray), .int .i64 0]) (t := 35) ?_; intro gb249 hg w3 hbox hb; have BK249 := zaa.mk (hbox); have GW249 := zaa.mk (gw hg (bl HB.out) : w.heap.size ≤ gb249); have GE249 := GW249; replace HB := zaa.mk (zan (bl HB.out) hb); clear hb hbox hg; have hcz4_0 : w3.cell? ⟨gb249, 0, none⟩ = some (.bool false) := (zac BK249.out 0).trans rfl; have hcz4_1 : w3.cell? ⟨gb249, 1, none⟩ = some (.string (⟨#[]⟩ : ByteArray)) := (zac BK249.out 1).trans rfl; have hcz4_2 : w3.cell? ⟨gb249, 2, none⟩ = some (.int .i64 0) := (zac BK249.out 2).trans rfl; have hfz4_0 := zab BK249.out 0; have hfz4_1 := zab BK249.out 1; have hfz4_2 := zab BK249.out 2))
 refine bodyPost_ret (results_cell_row rfl _ _ gb249 35 #[.bool true, .string a0, .int .i64 a1] (0, 0) _ rfl (bp BK249.out) Try.underlying35 rfl k9) rfl ?_
 exact ⟨by first | rfl | (simp [zaz, zaA] <;> rfl) | (simp [*, zaz, zaA] <;> rfl), bl HB.out⟩
def zbk.f (k : Nat) (l0 : List (S64)) (a1_0 : Int) (a1_1 : Int) (a1_2 : Int) (a1_3 : ByteArray) (l1_4 : List (S35)) (a2 : ByteArray) (a3_0 : Int) (a3_1 : Int) (a3_2 : Int) (a3_3 : ByteArray) (l3_4 : List (S35)) (a4 : Bool) : Option (Int × Int × Int × ByteArray × (List (S35)) × Int) := (zao.f k l0 a1_0 a1_1 a1_2 a1_3 l1_4 a2 (-1) a3_0 a3_1 a3_2 a3_3 l3_4 a4 false).bind fun bt253 => (some (bt253.1, bt253.2.1, bt253.2.2.1, bt253.2.2.2.1, bt253.2.2.2.2.1, bt253.2.2.2.2.2))
theorem zbk.mono : ∀ a0 a1 a2 a3 a4 a5 a6 a7 a8 a9 a10 a11 a12 k, LeO (zbk.f k a0 a1 a2 a3 a4 a5 a6 a7 a8 a9 a10 a11 a12) (zbk.f (k + 1) a0 a1 a2 a3 a4 a5 a6 a7 a8 a9 a10 a11 a12) := by
 intro a0 a1 a2 a3 a4 a5 a6 a7 a8 a9 a10 a11 a12 k
 unfold zbk.f
 repeat' first
   | (with_reducible exact zao.mono _ _ _ _ _ _ _ _ _ _ _ _ _ _ _ _)
   | (with_reducible exact LeO.refl _)
   | (with_reducible exact LeO.none _)
   | (with_reducible refine LeO.ite ?_ ?_)
   | (with_reducible refine LeO.bind ?_ (fun _ => ?_))
   | exact zao.mono _ _ _ _ _ _ _ _ _ _ _ _ _ _ _ _
   | exact LeO.none _
   | refine LeO.ite ?_ ?_
   | refine LeO.bind ?_ (fun _ => ?_)
theorem zbk.calls (k : Nat) (A0 : Option Addr) (c0 : Nat) (l0 : List (S64)) (a1_0 : Int) (a1_1 : Int) (a1_2 : Int) (a1_3 : ByteArray) (A1_4 : Option Addr) (c1_4 : Nat) (l1_4 : List (S35)) (a2 : ByteArray) (a3_0 : Int) (a3_1 : Int) (a3_2 : Int) (a3_3 : ByteArray) (A3_4 : Option Addr) (c3_4 : Nat) (l3_4 : List (S35)) (a4 : Bool) (r1 : Int) (r2 : Int) (r3 : Int) (r4 : ByteArray) (r5 : List (S35)) (r6 : Int) (w : World) (hr0 : Kd.C k64 w A0 l0.length l0) (hc0 : l0.length ≤ c0) (hr1_4 : Kd.C k35 w A1_4 l1_4.length l1_4) (hc1_4 : l1_4.length ≤ c1_4) (hr3_4 : Kd.C k35 w A3_4 l3_4.length l3_4) (hc3_4 : l3_4.length ≤ c3_4) (h : zbk.f k l0 a1_0 a1_1 a1_2 a1_3 l1_4 a2 a3_0 a3_1 a3_2 a3_3 l3_4 a4 = some (r1, r2, r3, r4, r5, r6)) :
  Calls Try.prog 23 #[.slice A0 l0.length c0, .agg #[.int .i64 a1_0, .int .i64 a1_1, .int .u64 a1_2, .string a1_3, .slice A1_4 l1_4.length c1_4], .string a2, .agg #[.int .i64 a3_0, .int .i64 a3_1, .int .u64 a3_2, .string a3_3, .slice A3_4 l3_4.length c3_4], .bool a4] w fun e w' => ∃ v4_ : Value, e = .returned (.tuple #[.agg #[.int .i64 r1, .int .i64 r2, .int .u64 r3, .string r4, v4_], .int .i64 r6]) ∧ Kd.R k35 35 w' w.heap.size (fun _ => True) v4_ r5 ∧ Below w.heap.size w w' := by
 have hu27 := Try.underlying27
 have HR0 := zaa.mk hr0
 have HC0 := zaa.mk hc0
 clear hr0 hc0
 have HR1_4 := zaa.mk hr1_4
 have HC1_4 := zaa.mk hc1_4
 clear hr1_4 hc1_4
 have HR3_4 := zaa.mk hr3_4
 have HC3_4 := zaa.mk hc3_4
 clear hr3_4 hc3_4
 have HB := zaa.mk (Below.refl w.heap.size w)
 have H : ((zao.f k l0 a1_0 a1_1 a1_2 a1_3 l1_4 a2 (-1) a3_0 a3_1 a3_2 a3_3 l3_4 a4 false).bind fun bt253 => (some (bt253.1, bt253.2.1, bt253.2.2.1, bt253.2.2.2.1, bt253.2.2.2.2.1, bt253.2.2.2.2.2))) = some (r1, r2, r3, r4, r5, r6) := h
 clear h
 replace H := Option.bind_eq_some_iff.mp H
 obtain ⟨⟨t253, t254, t255, t256, t257, t260⟩, A60, H⟩ := H
 replace H : (some (t253, t254, t255, t256, t257, t260)) = some (r1, r2, r3, r4, r5, r6) := H
 have A6 := zaa.mk A60
 clear A60
 simp only [Option.some.injEq, Prod.mk.injEq] at H
 obtain ⟨rfl, rfl, rfl, rfl, rfl, rfl⟩ := H
 go_enter Try.func23, Try.ntmps23
 go_wp2_with (first | ((with_reducible refine zaL (N := 6) rfl ?_); refine zbq (N := 6) (cs := #[.int .i64 a1_0, .int .i64 a1_1, .int .u64 a1_2, .string a1_3, .slice A1_4 l1_4.length c1_4]) (t := 27) ?_; intro gb250 hg w7 hbox hb; have BK250 := zaa.mk (hbox); have GW250 := zaa.mk (gw hg (bl HB.out) : w.heap.size ≤ gb250); have GE250 := GW250; replace HB := zaa.mk (zan (bl HB.out) hb); clear hb hbox hg) | ((with_reducible refine zaL (N := 8) rfl ?_); refine zbq (N := 8) (cs := #[.int .i64 a3_0, .int .i64 a3_1, .int .u64 a3_2, .string a3_3, .slice A3_4 l3_4.length c3_4]) (t := 27) ?_; intro gb251 hg w8 hbox hb; have BK251 := zaa.mk (hbox); have GW251 := zaa.mk (gw hg (bl HB.out) : w.heap.size ≤ gb251); have GE251 := GW251; have NB250_251 := zaa.mk (nl hg BK250.out : gb250 ≠ gb251); have NB251_250 := zaa.mk (ng hg BK250.out : gb251 ≠ gb250); replace BK250 := zaa.mk (zaq (bk BK250.out) hb); replace HB := zaa.mk (zan (bl HB.out) hb); clear hb hbox hg) | ((with_reducible refine zaL (N := 10) rfl ?_); refine zbq (N := 10) (cs := #[.int .i64 0, .int .i64 0, .int .u64 0, .string (⟨#[]⟩ : ByteArray), .slice none 0 0]) (t := 27) ?_; intro gb252 hg w9 hbox hb; have BK252 := zaa.mk (hbox); have GW252 := zaa.mk (gw hg (bl HB.out) : w.heap.size ≤ gb252); have GE252 := GW252; have NB250_252 := zaa.mk (nl hg BK250.out : gb250 ≠ gb252); have NB252_250 := zaa.mk (ng hg BK250.out : gb252 ≠ gb250); have NB251_252 := zaa.mk (nl hg BK251.out : gb251 ≠ gb252); have NB252_251 := zaa.mk (ng hg BK251.out : gb252 ≠ gb251); replace BK250 := zaa.mk (zaq (bk BK250.out) hb); replace BK251 := zaa.mk (zaq (bk BK251.out) hb); replace HB := zaa.mk (zan (bl HB.out) hb); clear hb hbox hg; have hnb10 := NB250_251.out; have hnc10 := NB251_250.out; have hnb11 := NB250_252.out; have hnc11 := NB252_250.out; have hcz12_0 : w9.cell? ⟨gb250, 0, none⟩ = some (.int .i64 a1_0) := (zac BK250.out 0).trans rfl; have hcz12_1 : w9.cell? ⟨gb250, 1, none⟩ = some (.int .i64 a1_1) := (zac BK250.out 1).trans rfl; have hcz12_2 : w9.cell? ⟨gb250, 2, none⟩ = some (.int .u64 a1_2) := (zac BK250.out 2).trans rfl; have hcz12_3 : w9.cell? ⟨gb250, 3, none⟩ = some (.string a1_3) := (zac BK250.out 3).trans rfl; have hcz12_4 : w9.cell? ⟨gb250, 4, none⟩ = some (.slice A1_4 l1_4.length c1_4) := (zac BK250.out 4).trans rfl; have hfz12_0 := zab BK250.out 0; have hfz12_1 := zab BK250.out 1; have hfz12_2 := zab BK250.out 2; have hfz12_3 := zab BK250.out 3; have hfz12_4 := zab BK250.out 4; have hnb13 := NB251_252.out; have hnc13 := NB252_251.out; have hcz14_0 : w9.cell? ⟨gb251, 0, none⟩ = some (.int .i64 a3_0) := (zac BK251.out 0).trans rfl; have hcz14_1 : w9.cell? ⟨gb251, 1, none⟩ = some (.int .i64 a3_1) := (zac BK251.out 1).trans rfl; have hcz14_2 : w9.cell? ⟨gb251, 2, none⟩ = some (.int .u64 a3_2) := (zac BK251.out 2).trans rfl; have hcz14_3 : w9.cell? ⟨gb251, 3, none⟩ = some (.string a3_3) := (zac BK251.out 3).trans rfl; have hcz14_4 : w9.cell? ⟨gb251, 4, none⟩ = some (.slice A3_4 l3_4.length c3_4) := (zac BK251.out 4).trans rfl; have hfz14_0 := zab BK251.out 0; have hfz14_1 := zab BK251.out 1; have hfz14_2 := zab BK251.out 2; have hfz14_3 := zab BK251.out 3; have hfz14_4 := zab BK251.out 4) | ((with_reducible refine za4 (f := 37) rfl ?_); refine zbX (some 17) rfl rfl Try.func37 k9 rfl #[.slice A0 l0.length c0, .agg #[.int .i64 a1_0, .int .i64 a1_1, .int .u64 a1_2, .string a1_3, .slice A1_4 l1_4.length c1_4], .string a2, .int .i64 (-1), .agg #[.int .i64 a3_0, .int .i64 a3_1, .int .u64 a3_2, .string a3_3, .slice A3_4 l3_4.length c3_4], .bool a4, .bool false] rfl m9 ?_; (with_reducible refine (zao.calls k _ _ l0 a1_0 a1_1 a1_2 a1_3 _ _ l1_4 a2 (-1) a3_0 a3_1 a3_2 a3_3 _ _ l3_4 a4 false t253 t254 t255 t256 t257 t260 _ ?side1 ?side2 ?side3 ?side4 ?side5 ?side6 A6.out).mono ?_); (case side1 => repeat (first | exact (Kd.zat HR0.out HB.out) | (with_reducible refine Kd.zbr ?_ _) | (with_reducible refine Kd.zbx ?_ _) | (with_reducible refine Kd.zbu ?_))); (case side2 => exact HC0.out); (case side3 => repeat (first | exact (Kd.zat HR1_4.out HB.out) | (with_reducible refine Kd.zbr ?_ _) | (with_reducible refine Kd.zbx ?_ _) | (with_reducible refine Kd.zbu ?_))); (case side4 => exact HC1_4.out); (case side5 => repeat (first | exact (Kd.zat HR3_4.out HB.out) | (with_reducible refine Kd.zbr ?_ _) | (with_reducible refine Kd.zbx ?_ _) | (with_reducible refine Kd.zbu ?_))); (case side6 => exact HC3_4.out); rintro e w15 ⟨v258, rfl, ho0, hb⟩; refine ⟨_, rfl, ?_⟩; have HO259 := zaa.mk (Kd.zbi ho0 (zaO (bl HB.out))); replace BK250 := zaa.mk (zaq (bk BK250.out) hb); replace BK251 := zaa.mk (zaq (bk BK251.out) hb); replace BK252 := zaa.mk (zaq (bk BK252.out) hb); replace HB := zaa.mk (zan (bl HB.out) hb); (try clear hb); (try clear hb2); (try clear hk); (try clear hi); (try clear ho0); have hcz16_0 : w15.cell? ⟨gb252, 0, none⟩ = some (.int .i64 0) := (zac BK252.out 0).trans rfl; have hcz16_1 : w15.cell? ⟨gb252, 1, none⟩ = some (.int .i64 0) := (zac BK252.out 1).trans rfl; have hcz16_2 : w15.cell? ⟨gb252, 2, none⟩ = some (.int .u64 0) := (zac BK252.out 2).trans rfl; have hcz16_3 : w15.cell? ⟨gb252, 3, none⟩ = some (.string (⟨#[]⟩ : ByteArray)) := (zac BK252.out 3).trans rfl; have hcz16_4 : w15.cell? ⟨gb252, 4, none⟩ = some (.slice none 0 0) := (zac BK252.out 4).trans rfl; have hfz16_0 := zab BK252.out 0; have hfz16_1 := zab BK252.out 1; have hfz16_2 := zab BK252.out 2; have hfz16_3 := zab BK252.out 3; have hfz16_4 := zab BK252.out 4; obtain ⟨Ao17, co17, eo17⟩ := Kd.zbj HO259.out; subst eo17))
 refine bodyPost_ret (zch rfl _ _ gb252 27 #[.int .i64 t253, .int .i64 t254, .int .u64 t255, .string t256, .slice Ao17 t257.length co17] (0, 0) _ rfl (bp BK252.out) Try.underlying27 rfl k9) rfl ?_
 exact ⟨_, by first | rfl | (simp [zaz, zaA] <;> rfl) | (simp [*, zaz, zaA] <;> rfl), by (with_reducible repeat (first | apply Kd.zbt | apply Kd.zbA | apply Kd.zbN)); exact Kd.za0 (Kd.R_far (p := ⟨gb252, 4, none⟩) (Kd.R_far (p := ⟨gb252, 3, none⟩) (Kd.R_far (p := ⟨gb252, 2, none⟩) (Kd.R_far (p := ⟨gb252, 1, none⟩) (Kd.R_far (p := ⟨gb252, 0, none⟩) (Kd.zbJ HO259.out BK252.out d9) (fun _ hk => hk.2) (.int .i64 t253)) (fun _ hk => hk.2) (.int .i64 t254)) (fun _ hk => hk.2) (.int .u64 t255)) (fun _ hk => hk.2) (.string t256)) (fun _ hk => hk.2) (.slice Ao17 t257.length co17)) (fun _ hk => trivial), bl HB.out⟩
def zbd.f  : Option ((List (S64))) := some (([(⟨(⟨#[67]⟩ : ByteArray), (⟨#[]⟩ : ByteArray), ([] : List (S58)), (([(⟨(⟨#[109]⟩ : ByteArray), (([(⟨(⟨#[97]⟩ : ByteArray), (⟨#[68]⟩ : ByteArray)⟩ : S58)] : List (S58))), (⟨#[68]⟩ : ByteArray)⟩ : S61)] : List (S61)))⟩ : S64), (⟨(⟨#[68]⟩ : ByteArray), (⟨#[]⟩ : ByteArray), (([(⟨(⟨#[120]⟩ : ByteArray), (⟨#[105, 110, 116]⟩ : ByteArray)⟩ : S58)] : List (S58))), ([] : List (S61))⟩ : S64), (⟨(⟨#[69]⟩ : ByteArray), (⟨#[]⟩ : ByteArray), (([(⟨(⟨#[120]⟩ : ByteArray), (⟨#[105, 110, 116]⟩ : ByteArray)⟩ : S58), (⟨(⟨#[121]⟩ : ByteArray), (⟨#[115, 116, 114]⟩ : ByteArray)⟩ : S58)] : List (S58))), ([] : List (S61))⟩ : S64)] : List (S64)))
theorem zbd.calls  (r : List (S64)) (w : World) (h : zbd.f  = some r) :
  Calls Try.prog 6 #[] w fun e w' => ∃ v0_ : Value, e = .returned (v0_) ∧ Kd.N k64 64 w' w.heap.size (fun k_ => (w.heap.size ≤ k_)) v0_ r ∧ Below w.heap.size w w' := by
 have hu58 := Try.underlying58
 have hu61 := Try.underlying61
 have hu64 := Try.underlying64
 have HB := zaa.mk (Below.refl w.heap.size w)
 have H : (some (([(⟨(⟨#[67]⟩ : ByteArray), (⟨#[]⟩ : ByteArray), ([] : List (S58)), (([(⟨(⟨#[109]⟩ : ByteArray), (([(⟨(⟨#[97]⟩ : ByteArray), (⟨#[68]⟩ : ByteArray)⟩ : S58)] : List (S58))), (⟨#[68]⟩ : ByteArray)⟩ : S61)] : List (S61)))⟩ : S64), (⟨(⟨#[68]⟩ : ByteArray), (⟨#[]⟩ : ByteArray), (([(⟨(⟨#[120]⟩ : ByteArray), (⟨#[105, 110, 116]⟩ : ByteArray)⟩ : S58)] : List (S58))), ([] : List (S61))⟩ : S64), (⟨(⟨#[69]⟩ : ByteArray), (⟨#[]⟩ : ByteArray), (([(⟨(⟨#[120]⟩ : ByteArray), (⟨#[105, 110, 116]⟩ : ByteArray)⟩ : S58), (⟨(⟨#[121]⟩ : ByteArray), (⟨#[115, 116, 114]⟩ : ByteArray)⟩ : S58)] : List (S58))), ([] : List (S61))⟩ : S64)] : List (S64)))) = some r := h
 clear h
 obtain ⟨y101, hy101⟩ : ∃ y_ : List (S58), y_ = (([(⟨(⟨#[97]⟩ : ByteArray), (⟨#[68]⟩ : ByteArray)⟩ : S58)] : List (S58))) := ⟨_, rfl⟩
 replace H : (some (([(⟨(⟨#[67]⟩ : ByteArray), (⟨#[]⟩ : ByteArray), ([] : List (S58)), (([(⟨(⟨#[109]⟩ : ByteArray), y101, (⟨#[68]⟩ : ByteArray)⟩ : S61)] : List (S61)))⟩ : S64), (⟨(⟨#[68]⟩ : ByteArray), (⟨#[]⟩ : ByteArray), (([(⟨(⟨#[120]⟩ : ByteArray), (⟨#[105, 110, 116]⟩ : ByteArray)⟩ : S58)] : List (S58))), ([] : List (S61))⟩ : S64), (⟨(⟨#[69]⟩ : ByteArray), (⟨#[]⟩ : ByteArray), (([(⟨(⟨#[120]⟩ : ByteArray), (⟨#[105, 110, 116]⟩ : ByteArray)⟩ : S58), (⟨(⟨#[121]⟩ : ByteArray), (⟨#[115, 116, 114]⟩ : ByteArray)⟩ : S58)] : List (S58))), ([] : List (S61))⟩ : S64)] : List (S64)))) = some r := by first | (rw [hy101]; with_reducible exact H) | (have H2_ := (Option.bind_some _ _).symm.trans H; rw [hy101]; with_reducible exact H2_) | (have H2_ := (Option.bind_some _ _).symm.trans H; with_reducible exact H2_) | with_reducible exact H | (rw [hy101]; exact H) | exact H
 have Ny101 := zaa.mk hy101
 clear hy101
 obtain ⟨y104, hy104⟩ : ∃ y_ : List (S61), y_ = (([(⟨(⟨#[109]⟩ : ByteArray), y101, (⟨#[68]⟩ : ByteArray)⟩ : S61)] : List (S61))) := ⟨_, rfl⟩
 replace H : (some (([(⟨(⟨#[67]⟩ : ByteArray), (⟨#[]⟩ : ByteArray), ([] : List (S58)), y104⟩ : S64), (⟨(⟨#[68]⟩ : ByteArray), (⟨#[]⟩ : ByteArray), (([(⟨(⟨#[120]⟩ : ByteArray), (⟨#[105, 110, 116]⟩ : ByteArray)⟩ : S58)] : List (S58))), ([] : List (S61))⟩ : S64), (⟨(⟨#[69]⟩ : ByteArray), (⟨#[]⟩ : ByteArray), (([(⟨(⟨#[120]⟩ : ByteArray), (⟨#[105, 110, 116]⟩ : ByteArray)⟩ : S58), (⟨(⟨#[121]⟩ : ByteArray), (⟨#[115, 116, 114]⟩ : ByteArray)⟩ : S58)] : List (S58))), ([] : List (S61))⟩ : S64)] : List (S64)))) = some r := by first | (rw [hy104]; with_reducible exact H) | (have H2_ := (Option.bind_some _ _).symm.trans H; rw [hy104]; with_reducible exact H2_) | (have H2_ := (Option.bind_some _ _).symm.trans H; with_reducible exact H2_) | with_reducible exact H | (rw [hy104]; exact H) | exact H
 have Ny104 := zaa.mk hy104
 clear hy104
 obtain ⟨y107, hy107⟩ : ∃ y_ : List (S58), y_ = (([(⟨(⟨#[120]⟩ : ByteArray), (⟨#[105, 110, 116]⟩ : ByteArray)⟩ : S58)] : List (S58))) := ⟨_, rfl⟩
 replace H : (some (([(⟨(⟨#[67]⟩ : ByteArray), (⟨#[]⟩ : ByteArray), ([] : List (S58)), y104⟩ : S64), (⟨(⟨#[68]⟩ : ByteArray), (⟨#[]⟩ : ByteArray), y107, ([] : List (S61))⟩ : S64), (⟨(⟨#[69]⟩ : ByteArray), (⟨#[]⟩ : ByteArray), (([(⟨(⟨#[120]⟩ : ByteArray), (⟨#[105, 110, 116]⟩ : ByteArray)⟩ : S58), (⟨(⟨#[121]⟩ : ByteArray), (⟨#[115, 116, 114]⟩ : ByteArray)⟩ : S58)] : List (S58))), ([] : List (S61))⟩ : S64)] : List (S64)))) = some r := by first | (rw [hy107]; with_reducible exact H) | (have H2_ := (Option.bind_some _ _).symm.trans H; rw [hy107]; with_reducible exact H2_) | (have H2_ := (Option.bind_some _ _).symm.trans H; with_reducible exact H2_) | with_reducible exact H | (rw [hy107]; exact H) | exact H
 have Ny107 := zaa.mk hy107
 clear hy107
 obtain ⟨y110, hy110⟩ : ∃ y_ : List (S58), y_ = (([(⟨(⟨#[120]⟩ : ByteArray), (⟨#[105, 110, 116]⟩ : ByteArray)⟩ : S58), (⟨(⟨#[121]⟩ : ByteArray), (⟨#[115, 116, 114]⟩ : ByteArray)⟩ : S58)] : List (S58))) := ⟨_, rfl⟩
 replace H : (some (([(⟨(⟨#[67]⟩ : ByteArray), (⟨#[]⟩ : ByteArray), ([] : List (S58)), y104⟩ : S64), (⟨(⟨#[68]⟩ : ByteArray), (⟨#[]⟩ : ByteArray), y107, ([] : List (S61))⟩ : S64), (⟨(⟨#[69]⟩ : ByteArray), (⟨#[]⟩ : ByteArray), y110, ([] : List (S61))⟩ : S64)] : List (S64)))) = some r := by first | (rw [hy110]; with_reducible exact H) | (have H2_ := (Option.bind_some _ _).symm.trans H; rw [hy110]; with_reducible exact H2_) | (have H2_ := (Option.bind_some _ _).symm.trans H; with_reducible exact H2_) | with_reducible exact H | (rw [hy110]; exact H) | exact H
 have Ny110 := zaa.mk hy110
 clear hy110
 obtain ⟨y113, hy113⟩ : ∃ y_ : List (S64), y_ = (([(⟨(⟨#[67]⟩ : ByteArray), (⟨#[]⟩ : ByteArray), ([] : List (S58)), y104⟩ : S64), (⟨(⟨#[68]⟩ : ByteArray), (⟨#[]⟩ : ByteArray), y107, ([] : List (S61))⟩ : S64), (⟨(⟨#[69]⟩ : ByteArray), (⟨#[]⟩ : ByteArray), y110, ([] : List (S61))⟩ : S64)] : List (S64))) := ⟨_, rfl⟩
 replace H : (some y113) = some r := by first | (rw [hy113]; with_reducible exact H) | (have H2_ := (Option.bind_some _ _).symm.trans H; rw [hy113]; with_reducible exact H2_) | (have H2_ := (Option.bind_some _ _).symm.trans H; with_reducible exact H2_) | with_reducible exact H | (rw [hy113]; exact H) | exact H
 have Ny113 := zaa.mk hy113
 clear hy113
 obtain rfl := Option.some.inj H
 go_enter Try.func6, Try.ntmps6
 go_wp2_with (first | ((with_reducible refine zaL (N := 2) rfl ?_); refine Kd.R_lit k58 _ 58 ?hg (N := 2) ?hd (xs := ([(⟨(⟨#[97]⟩ : ByteArray), (⟨#[68]⟩ : ByteArray)⟩ : S58)] : List (S58))) (inner := [.string (⟨#[97]⟩ : ByteArray), .string (⟨#[68]⟩ : ByteArray)]) (ok := fun _ => True) (okp := fun _ => True) ?hr ?hp (fun _ hk => hk) trivial (Below.refl _ _) (Nat.le_refl _) s9 ?_; (case hd => rfl); (case hg => rfl); (case hr => first | (go_simp; done) | (go_simp; rfl)); (case hp => exact (Reps.c2 (show Kd.M k58 _ _ _ (⟨(⟨#[97]⟩ : ByteArray), (⟨#[68]⟩ : ByteArray)⟩ : S58) [.string (⟨#[97]⟩ : ByteArray), .string (⟨#[68]⟩ : ByteArray)] from (zf0 _ _ _ (⟨(⟨#[97]⟩ : ByteArray), (⟨#[68]⟩ : ByteArray)⟩ : S58) )) (Reps.none _ _))); intro v102 w1 ho2 hb hg_ hnew_; clear hg_ hnew_; (first | rw [← Ny101.out] at ho2 | (simp only [Int.reduceToNat] at ho2; rw [← Ny101.out] at ho2)); have HO103 := zaa.mk (Kd.zbi (Kd.zgi (M := fun k_ => (w.heap.size ≤ k_)) ho2 (zaO (bl HB.out)) (fun k_ h_ => h_)) (zaO (bl HB.out))); replace HB := zaa.mk (zan (bl HB.out) hb); clear hb ho2; obtain ⟨Ao3, co3, eo3⟩ := Kd.zbj HO103.out; subst eo3) | ((with_reducible refine zaL (N := 4) rfl ?_); refine Kd.N_lit k61 _ 61 ?hg (N' := 4) ?hd (xs := ([(⟨(⟨#[109]⟩ : ByteArray), y101, (⟨#[68]⟩ : ByteArray)⟩ : S61)] : List (S61))) (inner := [.string (⟨#[109]⟩ : ByteArray), .slice Ao3 y101.length co3, .string (⟨#[68]⟩ : ByteArray)]) (ok := (fun k_ => (w.heap.size ≤ k_))) (okp := (fun k_ => (w.heap.size ≤ k_))) ?hr ?hp (fun _ hk => hk) ((show ∀ k_, w1.heap.size ≤ k_ → (fun k_ => (w.heap.size ≤ k_)) k_ from fun k_ hk => (Nat.le_trans (zaO (bl HB.out)) hk)) _ (Nat.le_refl _)) (Below.refl _ _) (Nat.le_refl _) s9 ?_; (case hd => rfl); (case hg => rfl); (case hr => first | (go_simp; done) | (go_simp; rfl)); (case hp => exact (Reps.c3 (show Kd.FK k61 _ _ (⟨(⟨#[109]⟩ : ByteArray), y101, (⟨#[68]⟩ : ByteArray)⟩ : S61) [.string (⟨#[109]⟩ : ByteArray), .slice Ao3 y101.length co3, .string (⟨#[68]⟩ : ByteArray)] from (zk1 _ _ (⟨(⟨#[109]⟩ : ByteArray), y101, (⟨#[68]⟩ : ByteArray)⟩ : S61) (Kd.zbn (Kd.za0 (ok' := (fun k_ => (w.heap.size ≤ k_))) (HO103.out) (fun k_ hk => hk.1))).2.1 (Kd.R_F (Kd.za0 (ok' := (fun k_ => (w.heap.size ≤ k_))) (HO103.out) (fun k_ hk => hk.1))))) (Reps.none _ _))); intro v105 w4 ho5 hb hg_ hnew_; clear hg_ hnew_; (first | rw [← Ny104.out] at ho5 | (simp only [Int.reduceToNat] at ho5; rw [← Ny104.out] at ho5)); have HO106 := zaa.mk (Kd.zgN ho5 (zaO (bl HB.out))); replace HB := zaa.mk (zan (bl HB.out) hb); clear HO103; clear hb ho5; obtain ⟨Ao6, co6, eo6⟩ := Kd.zgZ HO106.out; subst eo6) | ((with_reducible refine zaL (N := 7) rfl ?_); refine Kd.R_lit k58 _ 58 ?hg (N := 7) ?hd (xs := ([(⟨(⟨#[120]⟩ : ByteArray), (⟨#[105, 110, 116]⟩ : ByteArray)⟩ : S58)] : List (S58))) (inner := [.string (⟨#[120]⟩ : ByteArray), .string (⟨#[105, 110, 116]⟩ : ByteArray)]) (ok := fun _ => True) (okp := fun _ => True) ?hr ?hp (fun _ hk => hk) trivial (Below.refl _ _) (Nat.le_refl _) s9 ?_; (case hd => rfl); (case hg => rfl); (case hr => first | (go_simp; done) | (go_simp; rfl)); (case hp => exact (Reps.c2 (show Kd.M k58 _ _ _ (⟨(⟨#[120]⟩ : ByteArray), (⟨#[105, 110, 116]⟩ : ByteArray)⟩ : S58) [.string (⟨#[120]⟩ : ByteArray), .string (⟨#[105, 110, 116]⟩ : ByteArray)] from (zf0 _ _ _ (⟨(⟨#[120]⟩ : ByteArray), (⟨#[105, 110, 116]⟩ : ByteArray)⟩ : S58) )) (Reps.none _ _))); intro v108 w7 ho8 hb hg_ hnew_; clear hg_ hnew_; (first | rw [← Ny107.out] at ho8 | (simp only [Int.reduceToNat] at ho8; rw [← Ny107.out] at ho8)); have HO109 := zaa.mk (Kd.zbi (Kd.zgi (M := fun k_ => (w.heap.size ≤ k_)) ho8 (zaO (bl HB.out)) (fun k_ h_ => h_)) (zaO (bl HB.out))); replace HO106 := zaa.mk (Kd.zel (by (with_reducible repeat (first | apply Kd.zeE | apply Kd.zeR | apply Kd.zgA)); exact HO106.out) (Kd.zci ho8) hb); replace HB := zaa.mk (zan (bl HB.out) hb); clear hb ho8; obtain ⟨Ao9, co9, eo9⟩ := Kd.zbj HO109.out; subst eo9) | ((with_reducible refine zaL (N := 11) rfl ?_); refine Kd.R_lit k58 _ 58 ?hg (N := 11) ?hd (xs := ([(⟨(⟨#[120]⟩ : ByteArray), (⟨#[105, 110, 116]⟩ : ByteArray)⟩ : S58), (⟨(⟨#[121]⟩ : ByteArray), (⟨#[115, 116, 114]⟩ : ByteArray)⟩ : S58)] : List (S58))) (inner := [.string (⟨#[120]⟩ : ByteArray), .string (⟨#[105, 110, 116]⟩ : ByteArray), .string (⟨#[121]⟩ : ByteArray), .string (⟨#[115, 116, 114]⟩ : ByteArray)]) (ok := fun _ => True) (okp := fun _ => True) ?hr ?hp (fun _ hk => hk) trivial (Below.refl _ _) (Nat.le_refl _) s9 ?_; (case hd => rfl); (case hg => rfl); (case hr => first | (go_simp; done) | (go_simp; rfl)); (case hp => exact (Reps.c2 (show Kd.M k58 _ _ _ (⟨(⟨#[120]⟩ : ByteArray), (⟨#[105, 110, 116]⟩ : ByteArray)⟩ : S58) [.string (⟨#[120]⟩ : ByteArray), .string (⟨#[105, 110, 116]⟩ : ByteArray)] from (zf0 _ _ _ (⟨(⟨#[120]⟩ : ByteArray), (⟨#[105, 110, 116]⟩ : ByteArray)⟩ : S58) )) (Reps.c2 (show Kd.M k58 _ _ _ (⟨(⟨#[121]⟩ : ByteArray), (⟨#[115, 116, 114]⟩ : ByteArray)⟩ : S58) [.string (⟨#[121]⟩ : ByteArray), .string (⟨#[115, 116, 114]⟩ : ByteArray)] from (zf0 _ _ _ (⟨(⟨#[121]⟩ : ByteArray), (⟨#[115, 116, 114]⟩ : ByteArray)⟩ : S58) )) (Reps.none _ _)))); intro v111 w10 ho11 hb hg_ hnew_; clear hg_ hnew_; (first | rw [← Ny110.out] at ho11 | (simp only [Int.reduceToNat] at ho11; rw [← Ny110.out] at ho11)); have HO112 := zaa.mk (Kd.zbi (Kd.zeX (Kd.zgi (M := fun k_ => (w.heap.size ≤ k_)) ho11 (zaO (bl HB.out)) (fun k_ h_ => h_)) (Kd.R_lt (by (with_reducible repeat (first | apply Kd.zbt | apply Kd.zbA | apply Kd.zbN)); exact HO109.out))) (zaO (bl HB.out))); replace HO106 := zaa.mk (Kd.zel (by (with_reducible repeat (first | apply Kd.zeE | apply Kd.zeR | apply Kd.zgA)); exact HO106.out) (Kd.zci ho11) hb); replace HO109 := zaa.mk (Kd.zcY (by (with_reducible repeat (first | apply Kd.zbt | apply Kd.zbA | apply Kd.zbN)); exact HO109.out) (Kd.zci ho11) hb); replace HB := zaa.mk (zan (bl HB.out) hb); clear hb ho11; obtain ⟨Ao12, co12, eo12⟩ := Kd.zbj HO112.out; subst eo12) | ((with_reducible refine zaL (N := 13) rfl ?_); refine Kd.N_lit k64 _ 64 ?hg (N' := 13) ?hd (xs := ([(⟨(⟨#[67]⟩ : ByteArray), (⟨#[]⟩ : ByteArray), ([] : List (S58)), y104⟩ : S64), (⟨(⟨#[68]⟩ : ByteArray), (⟨#[]⟩ : ByteArray), y107, ([] : List (S61))⟩ : S64), (⟨(⟨#[69]⟩ : ByteArray), (⟨#[]⟩ : ByteArray), y110, ([] : List (S61))⟩ : S64)] : List (S64))) (inner := [.string (⟨#[67]⟩ : ByteArray), .string (⟨#[]⟩ : ByteArray), .slice none 0 0, .slice Ao6 y104.length co6, .string (⟨#[68]⟩ : ByteArray), .string (⟨#[]⟩ : ByteArray), .slice Ao9 y107.length co9, .slice none 0 0, .string (⟨#[69]⟩ : ByteArray), .string (⟨#[]⟩ : ByteArray), .slice Ao12 y110.length co12, .slice none 0 0]) (ok := (fun k_ => (w.heap.size ≤ k_))) (okp := (fun k_ => (w.heap.size ≤ k_))) ?hr ?hp (fun _ hk => hk) ((show ∀ k_, w10.heap.size ≤ k_ → (fun k_ => (w.heap.size ≤ k_)) k_ from fun k_ hk => (Nat.le_trans (zaO (bl HB.out)) hk)) _ (Nat.le_refl _)) (Below.refl _ _) (Nat.le_refl _) s9 ?_; (case hd => rfl); (case hg => rfl); (case hr => first | (go_simp; done) | (go_simp; rfl)); (case hp => exact (Reps.c4 (show Kd.FK k64 _ _ (⟨(⟨#[67]⟩ : ByteArray), (⟨#[]⟩ : ByteArray), ([] : List (S58)), y104⟩ : S64) [.string (⟨#[67]⟩ : ByteArray), .string (⟨#[]⟩ : ByteArray), .slice none 0 0, .slice Ao6 y104.length co6] from (zg7 _ _ (⟨(⟨#[67]⟩ : ByteArray), (⟨#[]⟩ : ByteArray), ([] : List (S58)), y104⟩ : S64) (Nat.le_refl _) (Kd.F_nil _ _ _) (Kd.zdO (Kd.ziV (ok' := (fun k_ => (w.heap.size ≤ k_))) (HO106.out) (fun k_ hk => hk.1.1))).2.1 (Kd.N_F (Kd.ziV (ok' := (fun k_ => (w.heap.size ≤ k_))) (HO106.out) (fun k_ hk => hk.1.1))))) (Reps.c4 (show Kd.FK k64 _ _ (⟨(⟨#[68]⟩ : ByteArray), (⟨#[]⟩ : ByteArray), y107, ([] : List (S61))⟩ : S64) [.string (⟨#[68]⟩ : ByteArray), .string (⟨#[]⟩ : ByteArray), .slice Ao9 y107.length co9, .slice none 0 0] from (zg7 _ _ (⟨(⟨#[68]⟩ : ByteArray), (⟨#[]⟩ : ByteArray), y107, ([] : List (S61))⟩ : S64) (Kd.zbn (Kd.za0 (ok' := (fun k_ => (w.heap.size ≤ k_))) (HO109.out) (fun k_ hk => hk.1.1))).2.1 (Kd.R_F (Kd.za0 (ok' := (fun k_ => (w.heap.size ≤ k_))) (HO109.out) (fun k_ hk => hk.1.1))) (Nat.le_refl _) (Kd.F_nil _ _ _))) (Reps.c4 (show Kd.FK k64 _ _ (⟨(⟨#[69]⟩ : ByteArray), (⟨#[]⟩ : ByteArray), y110, ([] : List (S61))⟩ : S64) [.string (⟨#[69]⟩ : ByteArray), .string (⟨#[]⟩ : ByteArray), .slice Ao12 y110.length co12, .slice none 0 0] from (zg7 _ _ (⟨(⟨#[69]⟩ : ByteArray), (⟨#[]⟩ : ByteArray), y110, ([] : List (S61))⟩ : S64) (Kd.zbn (Kd.za0 (ok' := (fun k_ => (w.heap.size ≤ k_))) (HO112.out) (fun k_ hk => hk.1.1))).2.1 (Kd.R_F (Kd.za0 (ok' := (fun k_ => (w.heap.size ≤ k_))) (HO112.out) (fun k_ hk => hk.1.1))) (Nat.le_refl _) (Kd.F_nil _ _ _))) (Reps.none _ _))))); intro v114 w13 ho14 hb hg_ hnew_; clear hg_ hnew_; (first | rw [← Ny113.out] at ho14 | (simp only [Int.reduceToNat] at ho14; rw [← Ny113.out] at ho14)); have HO115 := zaa.mk (Kd.zgN ho14 (zaO (bl HB.out))); replace HB := zaa.mk (zan (bl HB.out) hb); clear HO106 HO109 HO112; clear hb ho14))
 go_ret
 exact ⟨_, by first | rfl | (simp [zaz, zaA] <;> rfl) | (simp [*, zaz, zaA] <;> rfl), by (with_reducible repeat (first | apply Kd.zeE | apply Kd.zeR | apply Kd.zgA)); exact HO115.out, bl HB.out⟩
end Go.Proofs.Ytinkbljjpafadaa.PAll
end
