/- The laws' helpers at HldHolder, and at slices of them. -/
import Derived.Test.YtdogknbkcididaaTCll
namespace Go.Proofs.Ytdogknbkcididaa
open Go.RowKit
set_option linter.unusedSimpArgs false
set_option linter.unusedVariables false

structure Hld where
  age : Int
  count : Int
  st : Cll
def sHld : Sch := .st [.int, .int, sCll]
def hldDat (x : Hld) : Dat := .s [.i x.age, .i x.count, cllDat x.st]
def hldCells (x : Hld) (h : CllH) : List Value := [.int .i64 x.age, .int .i64 x.count, .int .i64 x.st.cell, .slice h.a1 x.st.wk.length h.c1, .int .i64 x.st.ground, .slice h.a3 x.st.outs.length h.c3, .slice h.a4 x.st.next.length h.c4, .slice h.a5 x.st.ins.length h.c5]
theorem rd_Hld {w : World} {vs : List Value} {x : Hld} (h : Re w sHld vs (hldDat x)) : ∃ h, vs = hldCells x h ∧ ReC w x.st h := by
  obtain ⟨ds, hd, k0⟩ := rd_st h
  clear h
  unfold hldDat at hd
  simp only [Dat.s.injEq] at hd
  subst hd
  obtain ⟨v1, v2, d1, d2, rfl, e, g0, k1⟩ := rdL_cons k0
  simp only [List.cons.injEq] at e; obtain ⟨rfl, rfl⟩ := e
  obtain ⟨y, rfl, e⟩ := rd_int g0
  simp only [Dat.i.injEq] at e; subst e
  obtain ⟨v1, v2, d1, d2, rfl, e, g1, k2⟩ := rdL_cons k1
  simp only [List.cons.injEq] at e; obtain ⟨rfl, rfl⟩ := e
  obtain ⟨y, rfl, e⟩ := rd_int g1
  simp only [Dat.i.injEq] at e; subst e
  obtain ⟨v1, v2, d1, d2, rfl, e, g2, k3⟩ := rdL_cons k2
  simp only [List.cons.injEq] at e; obtain ⟨rfl, rfl⟩ := e
  obtain ⟨h, rfl, r⟩ := rd_Cll g2
  obtain ⟨rfl, _⟩ := rdL_nil k3
  exact ⟨h, rfl, r⟩
theorem hld_of {hi : Nat} {w : World} {vs : List Value} {d : Dat} (h : Rd hi w sHld vs d) : ∃ x, d = hldDat x := by
  obtain ⟨ds, hd, k0⟩ := rd_st h
  clear h
  subst hd
  obtain ⟨v1, v2, d1, d2, rfl, rfl, g0, k1⟩ := rdL_cons k0
  obtain ⟨x0, _, rfl⟩ := rd_int g0
  obtain ⟨v1, v2, d1, d2, rfl, rfl, g0, k2⟩ := rdL_cons k1
  obtain ⟨x1, _, rfl⟩ := rd_int g0
  obtain ⟨v1, v2, d1, d2, rfl, rfl, g0, k3⟩ := rdL_cons k2
  obtain ⟨x2, rfl⟩ := cll_of g0
  obtain ⟨rfl, rfl⟩ := rdL_nil k3
  exact ⟨⟨x0, x1, x2⟩, rfl⟩
theorem open_Hld {w : World} {vs : List Value} {d : Dat} (h : Rd w.heap.size w sHld vs d) : ∃ x h, vs = hldCells x h ∧ ReC w x.st h := by
  obtain ⟨x, rfl⟩ := hld_of h
  obtain ⟨h', e, r⟩ := rd_Hld h
  exact ⟨x, h', e, r⟩
def MadeH (w : World) (x : Hld) (e : Ending) (w' : World) : Prop :=
  ∃ h : CllH, e = .returned (.agg #[.int .i64 x.age, .int .i64 x.count, .int .i64 x.st.cell, .slice h.a1 x.st.wk.length h.c1, .int .i64 x.st.ground, .slice h.a3 x.st.outs.length h.c3, .slice h.a4 x.st.next.length h.c4, .slice h.a5 x.st.ins.length h.c5]) ∧ Ext w w' ∧ OwnR w.heap.size w'.heap.size w' sHld (hldCells x h) (hldDat x)
theorem OwnR.hld {lo hi : Nat} {w : World} {x : Hld} {h : CllH} (o : OwnR lo hi w sHld (hldCells x h) (hldDat x)) : ReC w x.st h := by
  obtain ⟨h', e, r⟩ := rd_Hld o.re
  unfold hldCells at e
  simp only [List.cons.injEq, Value.slice.injEq, true_and, and_true] at e
  obtain ⟨⟨e1, e2⟩, ⟨e3, e4⟩, ⟨e5, e6⟩, e7, e8⟩ := e
  obtain ⟨a1, c1, a3, c3, a4, c4, a5, c5⟩ := h
  obtain ⟨b1, d1, b3, d3, b4, d4, b5, d5⟩ := h'
  simp only at e1 e2 e3 e4 e5 e6 e7 e8
  subst e1 e2 e3 e4 e5 e6 e7 e8
  exact r
theorem re_HldS {w : World} {vs : List Value} {d : Dat} (h : Rd w.heap.size w (.sl sHld) vs d) : ∃ xs : List Hld, d = .l (xs.map hldDat) := dmap_of (fun vs d h => hld_of h) h
theorem at_Hld {w : World} {a : Option Addr} {n c : Nat} {xs : List Hld} (h : Re w (.sl sHld) [.slice a n c] (.l (xs.map hldDat))) {k : Nat} (hk : k < n) :
    ∃ x h b o, xs[k]? = some x ∧ a = some (⟨b, o, none⟩ : Addr) ∧ b < w.heap.size ∧ w.cell? ⟨b, o + k * 8, none⟩ = some (.int .i64 x.age) ∧ w.cell? ⟨b, o + k * 8 + 1, none⟩ = some (.int .i64 x.count) ∧ w.cell? ⟨b, o + k * 8 + 2, none⟩ = some (.int .i64 x.st.cell) ∧ w.cell? ⟨b, o + k * 8 + 3, none⟩ = some (.slice h.a1 x.st.wk.length h.c1) ∧ w.cell? ⟨b, o + k * 8 + 4, none⟩ = some (.int .i64 x.st.ground) ∧ w.cell? ⟨b, o + k * 8 + 5, none⟩ = some (.slice h.a3 x.st.outs.length h.c3) ∧ w.cell? ⟨b, o + k * 8 + 6, none⟩ = some (.slice h.a4 x.st.next.length h.c4) ∧ w.cell? ⟨b, o + k * 8 + 7, none⟩ = some (.slice h.a5 x.st.ins.length h.c5) ∧ ReC w x.st h := by
  unfold Re Rd at h
  obtain ⟨a', n', c', ds, h1, h2, h3, h4, h5⟩ := h
  simp only [List.cons.injEq, Value.slice.injEq, and_true] at h1
  obtain ⟨rfl, rfl, rfl⟩ := h1
  simp only [Dat.l.injEq] at h2
  subst h2
  have hk' : k < xs.length := by rw [List.length_map] at h3; omega
  obtain ⟨b, o, es, ha, hb, hc, hr⟩ := h5 k (hldDat xs[k]) (by simp [hk'])
  obtain ⟨h', rfl, r⟩ := rd_Hld hr
  exact ⟨xs[k], h', b, o, by simp [hk'], ha, hb, hc 0 _ rfl, hc 1 _ rfl, hc 2 _ rfl, hc 3 _ rfl, hc 4 _ rfl, hc 5 _ rfl, hc 6 _ rfl, hc 7 _ rfl, r⟩

theorem szHld_c (x : Hld) (h : CllH) (left q : Int) (w : World) (hx : ReC w x.st h) (hq : szRun left (cllLens x.st) = q) (h0 : 0 ≤ left) (h1 : left ≤ 1048576) :
    Calls Try.prog 5 #[.agg #[.int .i64 x.age, .int .i64 x.count, .int .i64 x.st.cell, .slice h.a1 x.st.wk.length h.c1, .int .i64 x.st.ground, .slice h.a3 x.st.outs.length h.c3, .slice h.a4 x.st.next.length h.c4, .slice h.a5 x.st.ins.length h.c5], .int .i64 left] w fun e w' => e = .returned (.int .i64 q) ∧ Ext w w' := by
  have HX := hid hx
  have hb := szRun_le (cllLens x.st) left h0
  rw [hq] at hb
  have hb1 := hb.1
  have HQ := hid hq
  clear hx hq hb
  by_cases t : q < 0
  · have e : q = -1 := by omega
    subst e
    go_enter Try.func5, Try.ntmps5
    try go_wp2_with (first
        | (go_at_call 22; (with_reducible refine (szCll_c x.st h left (-1) _ (ReC.of HX.out (by ((try simp only [ext_drew]); (try simp only [ext_ext]); repeat (first | exact Ext.refl _ | with_reducible apply Ext.add | with_reducible apply Ext.dr | apply Ext.alloc | apply Ext.ext | apply Ext.drew | refine Ext.trans ?_ (by assumption))))) HQ.out h0 h1).mono ?_); rintro e w' ⟨rfl, t, rfl⟩)
        | (
          with_reducible refine wp_region_mix (by kernel_rfl) (by decide +kernel) ?_
          repeat (first
            | (refine mix_pure rfl ?_; (first | go_big_quiet_skip | (go_big_quiet_want; go_big_quiet_op; go_big_quiet_on)); refine wpQuiet_nil ?_)
            | (refine mix_skip (by rfl) ?_; (try simp only [Act.put, List.setIfInBounds_toArray, List.set_cons_zero, List.set_cons_succ]))
            | (refine mix_mk rfl (by rfl) (fun K hK => ?_); (first | (go_simp; first | (go_at_call 22; (with_reducible refine (szCll_c x.st h left (-1) _ (ReC.of HX.out (by ((try simp only [ext_drew]); (try simp only [ext_ext]); repeat (first | exact Ext.refl _ | with_reducible apply Ext.add | with_reducible apply Ext.dr | apply Ext.alloc | apply Ext.ext | apply Ext.drew | refine Ext.trans ?_ (by assumption))))) HQ.out h0 h1).mono ?_); rintro e w' ⟨rfl, t, rfl⟩) | skip)); (show K _ _); refine hK _ _ (show Ext _ _ from (by ((try simp only [ext_drew]); (try simp only [ext_ext]); repeat (first | exact Ext.refl _ | with_reducible apply Ext.add | with_reducible apply Ext.dr | apply Ext.alloc | apply Ext.ext | apply Ext.drew | refine Ext.trans ?_ (by assumption))))) ?_; clear hK K; (try simp only [Act.put, List.setIfInBounds_toArray, List.set_cons_zero, List.set_cons_succ])))
          refine mix_nil ?_)
        | (
          with_reducible refine wp_region_ext (by kernel_rfl) (by kernel_rfl) ?_
          repeat (first | go_big_quiet_skip | (go_big_quiet_want; go_big_quiet_op; first | go_big_quiet_on | (apply Exists.intro; refine ⟨fun _ => ?_, ?_⟩; (fail); (try rw [h1]); (try rw [h2]); (try rw [h3]); (try rw [h4]); (try rw [p1]); (try rw [p2]); (try rw [p3]); (try rw [p4]); (try rw [r1]); (try rw [r2]); (try rw [r3]); (try rw [r4]); (try rw [r5]); (try rw [r6]); (try rw [q3]); (try rw [q4]); (try rw [hp]); (try rw [hq]); go_big_quiet_on)))
          refine wpQuiet_nil ?_
          rintro _ ⟨tq, rfl⟩))
    go_ret
    exact ⟨rfl, (by ((try simp only [ext_drew]); (try simp only [ext_ext]); repeat (first | exact Ext.refl _ | with_reducible apply Ext.add | with_reducible apply Ext.dr | apply Ext.alloc | apply Ext.ext | apply Ext.drew | refine Ext.trans ?_ (by assumption))))⟩
  · go_enter Try.func5, Try.ntmps5
    try go_wp2_with (first
        | (go_at_call 22; (with_reducible refine (szCll_c x.st h left q _ (ReC.of HX.out (by ((try simp only [ext_drew]); (try simp only [ext_ext]); repeat (first | exact Ext.refl _ | with_reducible apply Ext.add | with_reducible apply Ext.dr | apply Ext.alloc | apply Ext.ext | apply Ext.drew | refine Ext.trans ?_ (by assumption))))) HQ.out h0 h1).mono ?_); rintro e w' ⟨rfl, t, rfl⟩)
        | (
          with_reducible refine wp_region_mix (by kernel_rfl) (by decide +kernel) ?_
          repeat (first
            | (refine mix_pure rfl ?_; (first | go_big_quiet_skip | (go_big_quiet_want; go_big_quiet_op; go_big_quiet_on)); refine wpQuiet_nil ?_)
            | (refine mix_skip (by rfl) ?_; (try simp only [Act.put, List.setIfInBounds_toArray, List.set_cons_zero, List.set_cons_succ]))
            | (refine mix_mk rfl (by rfl) (fun K hK => ?_); (first | (go_simp; first | (go_at_call 22; (with_reducible refine (szCll_c x.st h left q _ (ReC.of HX.out (by ((try simp only [ext_drew]); (try simp only [ext_ext]); repeat (first | exact Ext.refl _ | with_reducible apply Ext.add | with_reducible apply Ext.dr | apply Ext.alloc | apply Ext.ext | apply Ext.drew | refine Ext.trans ?_ (by assumption))))) HQ.out h0 h1).mono ?_); rintro e w' ⟨rfl, t, rfl⟩) | skip)); (show K _ _); refine hK _ _ (show Ext _ _ from (by ((try simp only [ext_drew]); (try simp only [ext_ext]); repeat (first | exact Ext.refl _ | with_reducible apply Ext.add | with_reducible apply Ext.dr | apply Ext.alloc | apply Ext.ext | apply Ext.drew | refine Ext.trans ?_ (by assumption))))) ?_; clear hK K; (try simp only [Act.put, List.setIfInBounds_toArray, List.set_cons_zero, List.set_cons_succ])))
          refine mix_nil ?_)
        | (
          with_reducible refine wp_region_ext (by kernel_rfl) (by kernel_rfl) ?_
          repeat (first | go_big_quiet_skip | (go_big_quiet_want; go_big_quiet_op; first | go_big_quiet_on | (apply Exists.intro; refine ⟨fun _ => ?_, ?_⟩; (fail); (try rw [h1]); (try rw [h2]); (try rw [h3]); (try rw [h4]); (try rw [p1]); (try rw [p2]); (try rw [p3]); (try rw [p4]); (try rw [r1]); (try rw [r2]); (try rw [r3]); (try rw [r4]); (try rw [r5]); (try rw [r6]); (try rw [q3]); (try rw [q4]); (try rw [hp]); (try rw [hq]); go_big_quiet_on)))
          refine wpQuiet_nil ?_
          rintro _ ⟨tq, rfl⟩))
    go_ret
    exact ⟨rfl, (by ((try simp only [ext_drew]); (try simp only [ext_ext]); repeat (first | exact Ext.refl _ | with_reducible apply Ext.add | with_reducible apply Ext.dr | apply Ext.alloc | apply Ext.ext | apply Ext.drew | refine Ext.trans ?_ (by assumption))))⟩

set_option maxRecDepth 100000 in
set_option maxHeartbeats 2000000 in
theorem toHld_c (x : Hld) (h : CllH) (w : World) (hx : ReC w x.st h) (hb : BdC x.st) :
    Calls Try.prog 8 #[.agg #[.int .i64 x.age, .int .i64 x.count, .int .i64 x.st.cell, .slice h.a1 x.st.wk.length h.c1, .int .i64 x.st.ground, .slice h.a3 x.st.outs.length h.c3, .slice h.a4 x.st.next.length h.c4, .slice h.a5 x.st.ins.length h.c5]] w (MadeH w x) := by
  have HX := hid hx
  have HB := hid hb
  clear hx hb
  go_enter Try.func8, Try.ntmps8
  try go_wp2_with (first
      | (go_at_call 25; (with_reducible refine (toCll_c x.st h _ (ReC.of HX.out (by ((try simp only [ext_drew]); (try simp only [ext_ext]); repeat (first | exact Ext.refl _ | with_reducible apply Ext.add | with_reducible apply Ext.dr | apply Ext.alloc | apply Ext.ext | apply Ext.drew | refine Ext.trans ?_ (by assumption))))) HB.out).mono ?_); rintro e w' ⟨p, rfl, ⟨t0, rfl⟩, ho⟩; have O := hid ho; clear ho)
      | (
        with_reducible refine wp_region_mix (by kernel_rfl) (by decide +kernel) ?_
        repeat (first
          | (refine mix_pure rfl ?_; (first | go_big_quiet_skip | (go_big_quiet_want; go_big_quiet_op; go_big_quiet_on)); refine wpQuiet_nil ?_)
          | (refine mix_skip (by rfl) ?_; (try simp only [Act.put, List.setIfInBounds_toArray, List.set_cons_zero, List.set_cons_succ]))
          | (refine mix_mk rfl (by rfl) (fun K hK => ?_); (first | (go_simp; first | (go_at_call 25; (with_reducible refine (toCll_c x.st h _ (ReC.of HX.out (by ((try simp only [ext_drew]); (try simp only [ext_ext]); repeat (first | exact Ext.refl _ | with_reducible apply Ext.add | with_reducible apply Ext.dr | apply Ext.alloc | apply Ext.ext | apply Ext.drew | refine Ext.trans ?_ (by assumption))))) HB.out).mono ?_); rintro e w' ⟨p, rfl, ⟨t0, rfl⟩, ho⟩; have O := hid ho; clear ho) | skip)); (show K _ _); refine hK _ _ (show Ext _ _ from (by ((try simp only [ext_drew]); (try simp only [ext_ext]); repeat (first | exact Ext.refl _ | with_reducible apply Ext.add | with_reducible apply Ext.dr | apply Ext.alloc | apply Ext.ext | apply Ext.drew | refine Ext.trans ?_ (by assumption))))) ?_; clear hK K; (try simp only [Act.put, List.setIfInBounds_toArray, List.set_cons_zero, List.set_cons_succ])))
        refine mix_nil ?_)
      | (
        with_reducible refine wp_region_ext (by kernel_rfl) (by kernel_rfl) ?_
        repeat (first | go_big_quiet_skip | (go_big_quiet_want; go_big_quiet_op; first | go_big_quiet_on | (apply Exists.intro; refine ⟨fun _ => ?_, ?_⟩; (fail); (try rw [h1]); (try rw [h2]); (try rw [h3]); (try rw [h4]); (try rw [p1]); (try rw [p2]); (try rw [p3]); (try rw [p4]); (try rw [r1]); (try rw [r2]); (try rw [r3]); (try rw [r4]); (try rw [r5]); (try rw [r6]); (try rw [q3]); (try rw [q4]); (try rw [hp]); (try rw [hq]); go_big_quiet_on)))
        refine wpQuiet_nil ?_
        rintro _ ⟨tq, rfl⟩))
  refine bodyPost_ret (v := .agg #[.int .i64 x.age, .int .i64 x.count, .int .i64 x.st.cell, .slice p.a1 x.st.wk.length p.c1, .int .i64 x.st.ground, .slice p.a3 x.st.outs.length p.c3, .slice p.a4 x.st.next.length p.c4, .slice p.a5 x.st.ins.length p.c5]) (by simp [results, Try.results8, go_sem]) rfl ?_
  refine ⟨p, rfl, (by ((try simp only [ext_drew]); (try simp only [ext_ext]); repeat (first | exact Ext.refl _ | with_reducible apply Ext.add | with_reducible apply Ext.dr | apply Ext.alloc | apply Ext.ext | apply Ext.drew | refine Ext.trans ?_ (by assumption)))), ?_⟩
  have Q := O.out
  (try rw [ext_ext] at Q)
  exact OwnRL.st (OwnRL.lo (OwnRL.int (OwnRL.int (OwnRL.cons' (s := sCll) (v1 := cllCells x.st p) (OwnR.fin Q (by ((try simp only [ext_drew]); (try simp only [ext_ext]); repeat (first | exact Ext.refl _ | with_reducible apply Ext.add | with_reducible apply Ext.dr | apply Ext.alloc | apply Ext.ext | apply Ext.drew | refine Ext.trans ?_ (by assumption)))) (by simp) (by simp [go_sem])) (OwnRL.nil' (Nat.le_refl _)) (by (try simp [go_sem]) <;> (try simp [Xt.add]) <;> omega) (by (try simp [go_sem]) <;> (try simp [Xt.add]) <;> omega) (by (try simp [go_sem]) <;> (try simp [Xt.add]) <;> omega)))) (by (try simp [go_sem]) <;> (try simp [Xt.add]) <;> omega))

theorem eqHld_c (x : Hld) (h h' : CllH) (w : World) (hx : ReC w x.st h) (hx' : ReC w x.st h') (hb : BdC x.st) :
    Calls Try.prog 11 #[.agg #[.int .i64 x.age, .int .i64 x.count, .int .i64 x.st.cell, .slice h.a1 x.st.wk.length h.c1, .int .i64 x.st.ground, .slice h.a3 x.st.outs.length h.c3, .slice h.a4 x.st.next.length h.c4, .slice h.a5 x.st.ins.length h.c5], .agg #[.int .i64 x.age, .int .i64 x.count, .int .i64 x.st.cell, .slice h'.a1 x.st.wk.length h'.c1, .int .i64 x.st.ground, .slice h'.a3 x.st.outs.length h'.c3, .slice h'.a4 x.st.next.length h'.c4, .slice h'.a5 x.st.ins.length h'.c5]] w fun e w' => e = .returned (.bool true) ∧ Ext w w' := by
  have HX := hid hx
  have HX' := hid hx'
  have HB := hid hb
  clear hx hx' hb
  go_enter Try.func11, Try.ntmps11
  try go_wp2_with (first
      | (go_at_call 29; (with_reducible refine (eqCll_c x.st h h' _ (ReC.of HX.out (by ((try simp only [ext_drew]); (try simp only [ext_ext]); repeat (first | exact Ext.refl _ | with_reducible apply Ext.add | with_reducible apply Ext.dr | apply Ext.alloc | apply Ext.ext | apply Ext.drew | refine Ext.trans ?_ (by assumption))))) (ReC.of HX'.out (by ((try simp only [ext_drew]); (try simp only [ext_ext]); repeat (first | exact Ext.refl _ | with_reducible apply Ext.add | with_reducible apply Ext.dr | apply Ext.alloc | apply Ext.ext | apply Ext.drew | refine Ext.trans ?_ (by assumption))))) HB.out).mono ?_); rintro e w' ⟨rfl, t, rfl⟩)
      | (
        with_reducible refine wp_region_mix (by kernel_rfl) (by decide +kernel) ?_
        repeat (first
          | (refine mix_pure rfl ?_; (first | go_big_quiet_skip | (go_big_quiet_want; go_big_quiet_op; go_big_quiet_on)); refine wpQuiet_nil ?_)
          | (refine mix_skip (by rfl) ?_; (try simp only [Act.put, List.setIfInBounds_toArray, List.set_cons_zero, List.set_cons_succ]))
          | (refine mix_mk rfl (by rfl) (fun K hK => ?_); (first | (go_simp; first | (go_at_call 29; (with_reducible refine (eqCll_c x.st h h' _ (ReC.of HX.out (by ((try simp only [ext_drew]); (try simp only [ext_ext]); repeat (first | exact Ext.refl _ | with_reducible apply Ext.add | with_reducible apply Ext.dr | apply Ext.alloc | apply Ext.ext | apply Ext.drew | refine Ext.trans ?_ (by assumption))))) (ReC.of HX'.out (by ((try simp only [ext_drew]); (try simp only [ext_ext]); repeat (first | exact Ext.refl _ | with_reducible apply Ext.add | with_reducible apply Ext.dr | apply Ext.alloc | apply Ext.ext | apply Ext.drew | refine Ext.trans ?_ (by assumption))))) HB.out).mono ?_); rintro e w' ⟨rfl, t, rfl⟩) | skip)); (show K _ _); refine hK _ _ (show Ext _ _ from (by ((try simp only [ext_drew]); (try simp only [ext_ext]); repeat (first | exact Ext.refl _ | with_reducible apply Ext.add | with_reducible apply Ext.dr | apply Ext.alloc | apply Ext.ext | apply Ext.drew | refine Ext.trans ?_ (by assumption))))) ?_; clear hK K; (try simp only [Act.put, List.setIfInBounds_toArray, List.set_cons_zero, List.set_cons_succ])))
        refine mix_nil ?_)
      | (
        with_reducible refine wp_region_ext (by kernel_rfl) (by kernel_rfl) ?_
        repeat (first | go_big_quiet_skip | (go_big_quiet_want; go_big_quiet_op; first | go_big_quiet_on | (apply Exists.intro; refine ⟨fun _ => ?_, ?_⟩; (fail); (try rw [h1]); (try rw [h2]); (try rw [h3]); (try rw [h4]); (try rw [p1]); (try rw [p2]); (try rw [p3]); (try rw [p4]); (try rw [r1]); (try rw [r2]); (try rw [r3]); (try rw [r4]); (try rw [r5]); (try rw [r6]); (try rw [q3]); (try rw [q4]); (try rw [hp]); (try rw [hq]); go_big_quiet_on)))
        refine wpQuiet_nil ?_
        rintro _ ⟨tq, rfl⟩))
  go_ret
  exact ⟨rfl, (by ((try simp only [ext_drew]); (try simp only [ext_ext]); repeat (first | exact Ext.refl _ | with_reducible apply Ext.add | with_reducible apply Ext.dr | apply Ext.alloc | apply Ext.ext | apply Ext.drew | refine Ext.trans ?_ (by assumption))))⟩
end Go.Proofs.Ytdogknbkcididaa
