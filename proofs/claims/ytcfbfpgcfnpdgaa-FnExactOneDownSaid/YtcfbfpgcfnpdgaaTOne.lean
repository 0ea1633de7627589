/- The laws' helpers at OneWorld. -/
import Derived.Test.YtcfbfpgcfnpdgaaTCll
import Derived.Test.YtcfbfpgcfnpdgaaTOnw
import Derived.Test.YtcfbfpgcfnpdgaaTMp
namespace Go.Proofs.Ytcfbfpgcfnpdgaa
open Go.RowKit
set_option linter.unusedSimpArgs false
set_option linter.unusedVariables false

structure One where
  map : Mp
  wk : List Onw
  ground : List Int
  air : List (List Int)
/-- Where the one world's slices lie. -/
structure OneH where
  a1 : Option Addr
  c1 : Nat
  a2 : Option Addr
  c2 : Nat
  a3 : Option Addr
  c3 : Nat
def sOne : Sch := .st [sMp, .sl sOnw, .sl .int, .sl (.sl .int)]
def oneDat (o : One) : Dat := .s [o.map.dat, .l (o.wk.map Onw.dat), .l (o.ground.map Dat.i), .l (o.air.map (ldat Dat.i))]
def oneCells (o : One) (h : OneH) : List Value := [.int .i64 o.map.c, .int .i64 o.map.w, .slice h.a1 o.wk.length h.c1, .slice h.a2 o.ground.length h.c2, .slice h.a3 o.air.length h.c3]
structure ReO (w : World) (o : One) (h : OneH) : Prop where
  r1 : Re w (.sl sOnw) [.slice h.a1 o.wk.length h.c1] (.l (o.wk.map Onw.dat))
  r2 : Re w (.sl .int) [.slice h.a2 o.ground.length h.c2] (.l (o.ground.map Dat.i))
  r3 : Re w (.sl (.sl .int)) [.slice h.a3 o.air.length h.c3] (.l (o.air.map (ldat Dat.i)))
theorem ReO.of {w w' : World} {o : One} {h : OneH} (r : ReO w o h) (hE : Ext w w') : ReO w' o h := ⟨r.r1.of hE, r.r2.of hE, r.r3.of hE⟩
structure BdO (o : One) : Prop where
  b1 : o.wk.length ≤ 1048576
  b2 : o.ground.length ≤ 1048576
  b3 : o.air.length ≤ 1048576
  ba : ∀ xs ∈ o.air, xs.length ≤ 1048576
def oneLens (o : One) : List Nat := o.wk.length :: o.ground.length :: (o.air.length :: o.air.map List.length)
theorem BdO.mk' {o : One} (h : ∀ n ∈ oneLens o, (n : Int) ≤ 1048576) : BdO o := by
  have h' : ∀ n ∈ oneLens o, n ≤ 1048576 := fun n hn => by have := h n hn; omega
  unfold oneLens at h'
  refine ⟨h' _ (by simp), h' _ (by simp), h' _ (by simp), fun xs hx => h' _ ?_⟩
  exact List.mem_cons_of_mem _ (List.mem_cons_of_mem _ (List.mem_cons_of_mem _ (List.mem_map.2 ⟨xs, hx, rfl⟩)))

theorem rd_One {w : World} {vs : List Value} {o : One} (h : Re w sOne vs (oneDat o)) : ∃ h, vs = oneCells o h ∧ ReO w o h := by
  obtain ⟨ds, hd, k0⟩ := rd_st h
  clear h
  unfold oneDat at hd
  simp only [Dat.s.injEq] at hd
  subst hd
  obtain ⟨v1, v2, d1, d2, rfl, e, g0, k1⟩ := rdL_cons k0
  simp only [List.cons.injEq] at e; obtain ⟨rfl, rfl⟩ := e
  obtain ⟨x, rfl, e⟩ := rd_Mp g0
  have e2 := Mp.dat_inj e
  subst e2
  obtain ⟨v1, v2, d1, d2, rfl, e, g1, k2⟩ := rdL_cons k1
  simp only [List.cons.injEq] at e; obtain ⟨rfl, rfl⟩ := e
  obtain ⟨a1, c1, rfl, g1⟩ := re_slm g1
  obtain ⟨v1, v2, d1, d2, rfl, e, g2, k3⟩ := rdL_cons k2
  simp only [List.cons.injEq] at e; obtain ⟨rfl, rfl⟩ := e
  obtain ⟨a2, c2, rfl, g2⟩ := re_slm g2
  obtain ⟨v1, v2, d1, d2, rfl, e, g3, k4⟩ := rdL_cons k3
  simp only [List.cons.injEq] at e; obtain ⟨rfl, rfl⟩ := e
  obtain ⟨a3, c3, rfl, g3⟩ := re_slm g3
  obtain ⟨rfl, _⟩ := rdL_nil k4
  exact ⟨⟨a1, c1, a2, c2, a3, c3⟩, rfl, g1, g2, g3⟩
theorem one_of {w : World} {vs : List Value} {d : Dat} (h : Rd w.heap.size w sOne vs d) : ∃ o, d = oneDat o := by
  obtain ⟨ds, hd, k0⟩ := rd_st h
  clear h
  subst hd
  obtain ⟨v1, v2, d1, d2, rfl, rfl, g0, k1⟩ := rdL_cons k0
  obtain ⟨x0, _, rfl⟩ := rd_Mp g0
  obtain ⟨v1, v2, d1, d2, rfl, rfl, g0, k2⟩ := rdL_cons k1
  obtain ⟨x1, rfl⟩ := dmap_of (fun vs d h => by obtain ⟨x, _, rfl⟩ := rd_Onw h; exact ⟨x, rfl⟩) g0
  obtain ⟨v1, v2, d1, d2, rfl, rfl, g0, k3⟩ := rdL_cons k2
  obtain ⟨x2, rfl⟩ := dmap_of (f := Dat.i) (fun vs d h => by obtain ⟨x, _, rfl⟩ := rd_int h; exact ⟨x, rfl⟩) g0
  obtain ⟨v1, v2, d1, d2, rfl, rfl, g0, k4⟩ := rdL_cons k3
  obtain ⟨x3, rfl⟩ := dmap_of (f := ldat Dat.i) (fun vs d h => by obtain ⟨x, rfl⟩ := dmap_of (f := Dat.i) (fun vs d h => by obtain ⟨x, _, rfl⟩ := rd_int h; exact ⟨x, rfl⟩) h; exact ⟨x, rfl⟩) g0
  obtain ⟨rfl, rfl⟩ := rdL_nil k4
  exact ⟨⟨x0, x1, x2, x3⟩, rfl⟩
theorem open_One {w : World} {vs : List Value} {d : Dat} (h : Rd w.heap.size w sOne vs d) : ∃ o h, vs = oneCells o h ∧ ReO w o h := by
  obtain ⟨o, rfl⟩ := one_of h
  obtain ⟨h', e, r⟩ := rd_One h
  exact ⟨o, h', e, r⟩
def MadeO (w : World) (o : One) (e : Ending) (w' : World) : Prop :=
  ∃ h : OneH, e = .returned (.agg #[.int .i64 o.map.c, .int .i64 o.map.w, .slice h.a1 o.wk.length h.c1, .slice h.a2 o.ground.length h.c2, .slice h.a3 o.air.length h.c3]) ∧ Ext w w' ∧ OwnR w.heap.size w'.heap.size w' sOne (oneCells o h) (oneDat o)
theorem OwnR.one' {lo hi : Nat} {w : World} {o : One} {h : OneH} (k : OwnR lo hi w sOne (oneCells o h) (oneDat o)) : ReO w o h := by
  obtain ⟨h', e, r⟩ := rd_One k.re
  unfold oneCells at e
  simp only [List.cons.injEq, Value.slice.injEq, true_and, and_true] at e
  obtain ⟨⟨e1, e2⟩, ⟨e3, e4⟩, e5, e6⟩ := e
  obtain ⟨a1, c1, a2, c2, a3, c3⟩ := h
  obtain ⟨b1, d1, b2, d2, b3, d3⟩ := h'
  simp only at e1 e2 e3 e4 e5 e6
  subst e1 e2 e3 e4 e5 e6
  exact r

theorem szOne_c (o : One) (h : OneH) (left q : Int) (w : World) (hx : ReO w o h) (hq : szRun left (oneLens o) = q) (h0 : 0 ≤ left) (h1 : left ≤ 1048576) :
    Calls Try.prog 15 #[.agg #[.int .i64 o.map.c, .int .i64 o.map.w, .slice h.a1 o.wk.length h.c1, .slice h.a2 o.ground.length h.c2, .slice h.a3 o.air.length h.c3], .int .i64 left] w fun e w' => e = .returned (.int .i64 q) ∧ Ext w w' := by
  subst hq
  have m1 := hx.r1.max
  have m2 := hx.r2.max
  have H3 := hid hx.r3
  clear hx
  by_cases t1 : left < (o.wk.length : Int)
  · have E := hid (show szRun left (oneLens o) = -1 from szRun_fail _ _ _ t1)
    go_enter Try.func15, Try.ntmps15
    try go_wp2_with (first
        | (go_at_call 37; refine (szOnwS_c _ _ _ _ _ (by omega) (by omega) (by assumption)).mono ?_; rintro e w' ⟨rfl, rfl⟩)
        | (
          with_reducible refine wp_region_mix (by kernel_rfl) (by decide +kernel) ?_
          repeat (first
            | (refine mix_pure rfl ?_; (first | go_big_quiet_skip | (go_big_quiet_want; go_big_quiet_op; go_big_quiet_on)); refine wpQuiet_nil ?_)
            | (refine mix_skip (by rfl) ?_; (try simp only [Act.put, List.setIfInBounds_toArray, List.set_cons_zero, List.set_cons_succ]))
            | (refine mix_mk rfl (by rfl) (fun K hK => ?_); (first | (go_simp; first | (go_at_call 37; refine (szOnwS_c _ _ _ _ _ (by omega) (by omega) (by assumption)).mono ?_; rintro e w' ⟨rfl, rfl⟩) | skip)); (show K _ _); refine hK _ _ (show Ext _ _ from (by ((try simp only [ext_drew]); (try simp only [ext_ext]); repeat (first | exact Ext.refl _ | with_reducible apply Ext.add | with_reducible apply Ext.dr | apply Ext.alloc | apply Ext.ext | apply Ext.drew | refine Ext.trans ?_ (by assumption))))) ?_; clear hK K; (try simp only [Act.put, List.setIfInBounds_toArray, List.set_cons_zero, List.set_cons_succ])))
          refine mix_nil ?_)
        | (
          with_reducible refine wp_region_ext (by kernel_rfl) (by kernel_rfl) ?_
          repeat (first | go_big_quiet_skip | (go_big_quiet_want; go_big_quiet_op; first | go_big_quiet_on | (apply Exists.intro; refine ⟨fun _ => ?_, ?_⟩; ((first | (go_at_call 37; first | exact quiet_same (szOnwS_c _ _ _ _ _ (by omega) (by omega) (by assumption)) | exact quiet_same2 (szOnwS_c _ _ _ _ _ (by omega) (by omega) (by assumption))))); (try rw [h1]); (try rw [h2]); (try rw [h3]); (try rw [h4]); (try rw [p1]); (try rw [p2]); (try rw [p3]); (try rw [p4]); (try rw [r1]); (try rw [r2]); (try rw [r3]); (try rw [r4]); (try rw [r5]); (try rw [r6]); (try rw [q3]); (try rw [q4]); (try rw [hp]); (try rw [hq]); go_big_quiet_on)))
          refine wpQuiet_nil ?_
          rintro _ ⟨tq, rfl⟩))
    go_ret
    exact ⟨ret_int (by rw [E.out]), (by ((try simp only [ext_drew]); (try simp only [ext_ext]); repeat (first | exact Ext.refl _ | with_reducible apply Ext.add | with_reducible apply Ext.dr | apply Ext.alloc | apply Ext.ext | apply Ext.drew | refine Ext.trans ?_ (by assumption))))⟩
  · have E := hid (show szRun left (oneLens o) = _ from szRun_step _ _ _ t1)
    by_cases t2 : left - (o.wk.length : Int) < (o.ground.length : Int)
    · have E2 := hid (szRun_fail (left - (o.wk.length : Int)) o.ground.length (o.air.length :: o.air.map List.length) t2)
      go_enter Try.func15, Try.ntmps15
      try go_wp2_with (first
          | (go_at_call 37; refine (szOnwS_c _ _ _ _ _ (by omega) (by omega) (by assumption)).mono ?_; rintro e w' ⟨rfl, rfl⟩) | (go_at_call 27; refine (szIntS_c _ _ _ _ _ (by omega) (by omega) (by assumption)).mono ?_; rintro e w' ⟨rfl, rfl⟩)
          | (
            with_reducible refine wp_region_mix (by kernel_rfl) (by decide +kernel) ?_
            repeat (first
              | (refine mix_pure rfl ?_; (first | go_big_quiet_skip | (go_big_quiet_want; go_big_quiet_op; go_big_quiet_on)); refine wpQuiet_nil ?_)
              | (refine mix_skip (by rfl) ?_; (try simp only [Act.put, List.setIfInBounds_toArray, List.set_cons_zero, List.set_cons_succ]))
              | (refine mix_mk rfl (by rfl) (fun K hK => ?_); (first | (go_simp; first | (go_at_call 37; refine (szOnwS_c _ _ _ _ _ (by omega) (by omega) (by assumption)).mono ?_; rintro e w' ⟨rfl, rfl⟩) | (go_at_call 27; refine (szIntS_c _ _ _ _ _ (by omega) (by omega) (by assumption)).mono ?_; rintro e w' ⟨rfl, rfl⟩) | skip)); (show K _ _); refine hK _ _ (show Ext _ _ from (by ((try simp only [ext_drew]); (try simp only [ext_ext]); repeat (first | exact Ext.refl _ | with_reducible apply Ext.add | with_reducible apply Ext.dr | apply Ext.alloc | apply Ext.ext | apply Ext.drew | refine Ext.trans ?_ (by assumption))))) ?_; clear hK K; (try simp only [Act.put, List.setIfInBounds_toArray, List.set_cons_zero, List.set_cons_succ])))
            refine mix_nil ?_)
          | (
            with_reducible refine wp_region_ext (by kernel_rfl) (by kernel_rfl) ?_
            repeat (first | go_big_quiet_skip | (go_big_quiet_want; go_big_quiet_op; first | go_big_quiet_on | (apply Exists.intro; refine ⟨fun _ => ?_, ?_⟩; ((first | (go_at_call 37; first | exact quiet_same (szOnwS_c _ _ _ _ _ (by omega) (by omega) (by assumption)) | exact quiet_same2 (szOnwS_c _ _ _ _ _ (by omega) (by omega) (by assumption))) | (go_at_call 27; first | exact quiet_same (szIntS_c _ _ _ _ _ (by omega) (by omega) (by assumption)) | exact quiet_same2 (szIntS_c _ _ _ _ _ (by omega) (by omega) (by assumption))))); (try rw [h1]); (try rw [h2]); (try rw [h3]); (try rw [h4]); (try rw [p1]); (try rw [p2]); (try rw [p3]); (try rw [p4]); (try rw [r1]); (try rw [r2]); (try rw [r3]); (try rw [r4]); (try rw [r5]); (try rw [r6]); (try rw [q3]); (try rw [q4]); (try rw [hp]); (try rw [hq]); go_big_quiet_on)))
            refine wpQuiet_nil ?_
            rintro _ ⟨tq, rfl⟩))
      go_ret
      exact ⟨ret_int (by rw [E.out, E2.out]), (by ((try simp only [ext_drew]); (try simp only [ext_ext]); repeat (first | exact Ext.refl _ | with_reducible apply Ext.add | with_reducible apply Ext.dr | apply Ext.alloc | apply Ext.ext | apply Ext.drew | refine Ext.trans ?_ (by assumption))))⟩
    · have E2 := hid (szRun_step (left - (o.wk.length : Int)) o.ground.length (o.air.length :: o.air.map List.length) t2)
      obtain ⟨q, hq⟩ : ∃ q, szRun (left - (o.wk.length : Int) - (o.ground.length : Int)) (o.air.length :: o.air.map List.length) = q := ⟨_, rfl⟩
      have hb := szRun_le (o.air.length :: o.air.map List.length) (left - (o.wk.length : Int) - (o.ground.length : Int)) (by omega)
      rw [hq] at hb
      have hb1 := hb.1
      have hb2 := hb.2
      have HQ := hid hq
      clear hb hq
      by_cases t3 : q < 0
      · have e3 : q = -1 := by omega
        subst e3
        go_enter Try.func15, Try.ntmps15
        try go_wp2_with (first
            | (go_at_call 37; refine (szOnwS_c _ _ _ _ _ (by omega) (by omega) (by assumption)).mono ?_; rintro e w' ⟨rfl, rfl⟩) | (go_at_call 27; refine (szIntS_c _ _ _ _ _ (by omega) (by omega) (by assumption)).mono ?_; rintro e w' ⟨rfl, rfl⟩) | (go_at_call 38; refine (szIntSS_c _ _ _ _ _ _ _ (Re.of (Hid.out (by assumption)) (by ((try simp only [ext_drew]); (try simp only [ext_ext]); repeat (first | exact Ext.refl _ | with_reducible apply Ext.add | with_reducible apply Ext.dr | apply Ext.alloc | apply Ext.ext | apply Ext.drew | refine Ext.trans ?_ (by assumption))))) (Hid.out (by assumption)) (by omega) (by omega)).mono ?_; rintro e w' ⟨rfl, t, rfl⟩)
            | (
              with_reducible refine wp_region_mix (by kernel_rfl) (by decide +kernel) ?_
              repeat (first
                | (refine mix_pure rfl ?_; (first | go_big_quiet_skip | (go_big_quiet_want; go_big_quiet_op; go_big_quiet_on)); refine wpQuiet_nil ?_)
                | (refine mix_skip (by rfl) ?_; (try simp only [Act.put, List.setIfInBounds_toArray, List.set_cons_zero, List.set_cons_succ]))
                | (refine mix_mk rfl (by rfl) (fun K hK => ?_); (first | (go_simp; first | (go_at_call 37; refine (szOnwS_c _ _ _ _ _ (by omega) (by omega) (by assumption)).mono ?_; rintro e w' ⟨rfl, rfl⟩) | (go_at_call 27; refine (szIntS_c _ _ _ _ _ (by omega) (by omega) (by assumption)).mono ?_; rintro e w' ⟨rfl, rfl⟩) | (go_at_call 38; refine (szIntSS_c _ _ _ _ _ _ _ (Re.of (Hid.out (by assumption)) (by ((try simp only [ext_drew]); (try simp only [ext_ext]); repeat (first | exact Ext.refl _ | with_reducible apply Ext.add | with_reducible apply Ext.dr | apply Ext.alloc | apply Ext.ext | apply Ext.drew | refine Ext.trans ?_ (by assumption))))) (Hid.out (by assumption)) (by omega) (by omega)).mono ?_; rintro e w' ⟨rfl, t, rfl⟩) | skip)); (show K _ _); refine hK _ _ (show Ext _ _ from (by ((try simp only [ext_drew]); (try simp only [ext_ext]); repeat (first | exact Ext.refl _ | with_reducible apply Ext.add | with_reducible apply Ext.dr | apply Ext.alloc | apply Ext.ext | apply Ext.drew | refine Ext.trans ?_ (by assumption))))) ?_; clear hK K; (try simp only [Act.put, List.setIfInBounds_toArray, List.set_cons_zero, List.set_cons_succ])))
              refine mix_nil ?_)
            | (
              with_reducible refine wp_region_ext (by kernel_rfl) (by kernel_rfl) ?_
              repeat (first | go_big_quiet_skip | (go_big_quiet_want; go_big_quiet_op; first | go_big_quiet_on | (apply Exists.intro; refine ⟨fun _ => ?_, ?_⟩; ((first | (go_at_call 37; first | exact quiet_same (szOnwS_c _ _ _ _ _ (by omega) (by omega) (by assumption)) | exact quiet_same2 (szOnwS_c _ _ _ _ _ (by omega) (by omega) (by assumption))) | (go_at_call 27; first | exact quiet_same (szIntS_c _ _ _ _ _ (by omega) (by omega) (by assumption)) | exact quiet_same2 (szIntS_c _ _ _ _ _ (by omega) (by omega) (by assumption))) | (go_at_call 38; first | exact quiet_call (szIntSS_c _ _ _ _ _ _ _ (Re.of (Hid.out (by assumption)) (by ((try simp only [ext_drew]); (try simp only [ext_ext]); repeat (first | exact Ext.refl _ | with_reducible apply Ext.add | with_reducible apply Ext.dr | apply Ext.alloc | apply Ext.ext | apply Ext.drew | refine Ext.trans ?_ (by assumption))))) (Hid.out (by assumption)) (by omega) (by omega)) | exact quiet_call2 (szIntSS_c _ _ _ _ _ _ _ (Re.of (Hid.out (by assumption)) (by ((try simp only [ext_drew]); (try simp only [ext_ext]); repeat (first | exact Ext.refl _ | with_reducible apply Ext.add | with_reducible apply Ext.dr | apply Ext.alloc | apply Ext.ext | apply Ext.drew | refine Ext.trans ?_ (by assumption))))) (Hid.out (by assumption)) (by omega) (by omega))))); (try rw [h1]); (try rw [h2]); (try rw [h3]); (try rw [h4]); (try rw [p1]); (try rw [p2]); (try rw [p3]); (try rw [p4]); (try rw [r1]); (try rw [r2]); (try rw [r3]); (try rw [r4]); (try rw [r5]); (try rw [r6]); (try rw [q3]); (try rw [q4]); (try rw [hp]); (try rw [hq]); go_big_quiet_on)))
              refine wpQuiet_nil ?_
              rintro _ ⟨tq, rfl⟩))
        go_ret
        exact ⟨ret_int (by rw [E.out, E2.out, HQ.out]), (by ((try simp only [ext_drew]); (try simp only [ext_ext]); repeat (first | exact Ext.refl _ | with_reducible apply Ext.add | with_reducible apply Ext.dr | apply Ext.alloc | apply Ext.ext | apply Ext.drew | refine Ext.trans ?_ (by assumption))))⟩
      · go_enter Try.func15, Try.ntmps15
        try go_wp2_with (first
            | (go_at_call 37; refine (szOnwS_c _ _ _ _ _ (by omega) (by omega) (by assumption)).mono ?_; rintro e w' ⟨rfl, rfl⟩) | (go_at_call 27; refine (szIntS_c _ _ _ _ _ (by omega) (by omega) (by assumption)).mono ?_; rintro e w' ⟨rfl, rfl⟩) | (go_at_call 38; refine (szIntSS_c _ _ _ _ _ _ _ (Re.of (Hid.out (by assumption)) (by ((try simp only [ext_drew]); (try simp only [ext_ext]); repeat (first | exact Ext.refl _ | with_reducible apply Ext.add | with_reducible apply Ext.dr | apply Ext.alloc | apply Ext.ext | apply Ext.drew | refine Ext.trans ?_ (by assumption))))) (Hid.out (by assumption)) (by omega) (by omega)).mono ?_; rintro e w' ⟨rfl, t, rfl⟩)
            | (
              with_reducible refine wp_region_mix (by kernel_rfl) (by decide +kernel) ?_
              repeat (first
                | (refine mix_pure rfl ?_; (first | go_big_quiet_skip | (go_big_quiet_want; go_big_quiet_op; go_big_quiet_on)); refine wpQuiet_nil ?_)
                | (refine mix_skip (by rfl) ?_; (try simp only [Act.put, List.setIfInBounds_toArray, List.set_cons_zero, List.set_cons_succ]))
                | (refine mix_mk rfl (by rfl) (fun K hK => ?_); (first | (go_simp; first | (go_at_call 37; refine (szOnwS_c _ _ _ _ _ (by omega) (by omega) (by assumption)).mono ?_; rintro e w' ⟨rfl, rfl⟩) | (go_at_call 27; refine (szIntS_c _ _ _ _ _ (by omega) (by omega) (by assumption)).mono ?_; rintro e w' ⟨rfl, rfl⟩) | (go_at_call 38; refine (szIntSS_c _ _ _ _ _ _ _ (Re.of (Hid.out (by assumption)) (by ((try simp only [ext_drew]); (try simp only [ext_ext]); repeat (first | exact Ext.refl _ | with_reducible apply Ext.add | with_reducible apply Ext.dr | apply Ext.alloc | apply Ext.ext | apply Ext.drew | refine Ext.trans ?_ (by assumption))))) (Hid.out (by assumption)) (by omega) (by omega)).mono ?_; rintro e w' ⟨rfl, t, rfl⟩) | skip)); (show K _ _); refine hK _ _ (show Ext _ _ from (by ((try simp only [ext_drew]); (try simp only [ext_ext]); repeat (first | exact Ext.refl _ | with_reducible apply Ext.add | with_reducible apply Ext.dr | apply Ext.alloc | apply Ext.ext | apply Ext.drew | refine Ext.trans ?_ (by assumption))))) ?_; clear hK K; (try simp only [Act.put, List.setIfInBounds_toArray, List.set_cons_zero, List.set_cons_succ])))
              refine mix_nil ?_)
            | (
              with_reducible refine wp_region_ext (by kernel_rfl) (by kernel_rfl) ?_
              repeat (first | go_big_quiet_skip | (go_big_quiet_want; go_big_quiet_op; first | go_big_quiet_on | (apply Exists.intro; refine ⟨fun _ => ?_, ?_⟩; ((first | (go_at_call 37; first | exact quiet_same (szOnwS_c _ _ _ _ _ (by omega) (by omega) (by assumption)) | exact quiet_same2 (szOnwS_c _ _ _ _ _ (by omega) (by omega) (by assumption))) | (go_at_call 27; first | exact quiet_same (szIntS_c _ _ _ _ _ (by omega) (by omega) (by assumption)) | exact quiet_same2 (szIntS_c _ _ _ _ _ (by omega) (by omega) (by assumption))) | (go_at_call 38; first | exact quiet_call (szIntSS_c _ _ _ _ _ _ _ (Re.of (Hid.out (by assumption)) (by ((try simp only [ext_drew]); (try simp only [ext_ext]); repeat (first | exact Ext.refl _ | with_reducible apply Ext.add | with_reducible apply Ext.dr | apply Ext.alloc | apply Ext.ext | apply Ext.drew | refine Ext.trans ?_ (by assumption))))) (Hid.out (by assumption)) (by omega) (by omega)) | exact quiet_call2 (szIntSS_c _ _ _ _ _ _ _ (Re.of (Hid.out (by assumption)) (by ((try simp only [ext_drew]); (try simp only [ext_ext]); repeat (first | exact Ext.refl _ | with_reducible apply Ext.add | with_reducible apply Ext.dr | apply Ext.alloc | apply Ext.ext | apply Ext.drew | refine Ext.trans ?_ (by assumption))))) (Hid.out (by assumption)) (by omega) (by omega))))); (try rw [h1]); (try rw [h2]); (try rw [h3]); (try rw [h4]); (try rw [p1]); (try rw [p2]); (try rw [p3]); (try rw [p4]); (try rw [r1]); (try rw [r2]); (try rw [r3]); (try rw [r4]); (try rw [r5]); (try rw [r6]); (try rw [q3]); (try rw [q4]); (try rw [hp]); (try rw [hq]); go_big_quiet_on)))
              refine wpQuiet_nil ?_
              rintro _ ⟨tq, rfl⟩))
        go_ret
        exact ⟨ret_int (by rw [E.out, E2.out, HQ.out]), (by ((try simp only [ext_drew]); (try simp only [ext_ext]); repeat (first | exact Ext.refl _ | with_reducible apply Ext.add | with_reducible apply Ext.dr | apply Ext.alloc | apply Ext.ext | apply Ext.drew | refine Ext.trans ?_ (by assumption))))⟩

set_option maxRecDepth 100000 in
set_option maxHeartbeats 2000000 in
theorem toOne_c (o : One) (h : OneH) (w : World) (hx : ReO w o h) (hb : BdO o) :
    Calls Try.prog 17 #[.agg #[.int .i64 o.map.c, .int .i64 o.map.w, .slice h.a1 o.wk.length h.c1, .slice h.a2 o.ground.length h.c2, .slice h.a3 o.air.length h.c3]] w (MadeO w o) := by
  have H1 := hid hx.r1
  have H2 := hid hx.r2
  have H3 := hid hx.r3
  have B1 := hb.b1
  have B2 := hb.b2
  have B3 := hb.b3
  have BA := hid hb.ba
  clear hx hb
  go_enter Try.func17, Try.ntmps17
  try go_wp2_with (first
      | (go_at_call 9; refine (toMp_c _ _).mono ?_; rintro e w' ⟨rfl, t, rfl⟩) | (go_at_call 41; (with_reducible refine (toOnwS_c o.wk h.a1 o.wk.length h.c1 _ (H1.out.of (by ((try simp only [ext_drew]); (try simp only [ext_ext]); repeat (first | exact Ext.refl _ | with_reducible apply Ext.add | with_reducible apply Ext.dr | apply Ext.alloc | apply Ext.ext | apply Ext.drew | refine Ext.trans ?_ (by assumption))))) B1).mono ?_); rintro e w' ⟨p1, q1, rfl, ⟨t1, rfl⟩, ho⟩; have O1 := hid ho; clear ho) | (go_at_call 30; (with_reducible refine (toIntS_c o.ground h.a2 o.ground.length h.c2 _ (H2.out.of (by ((try simp only [ext_drew]); (try simp only [ext_ext]); repeat (first | exact Ext.refl _ | with_reducible apply Ext.add | with_reducible apply Ext.dr | apply Ext.alloc | apply Ext.ext | apply Ext.drew | refine Ext.trans ?_ (by assumption))))) B2).mono ?_); rintro e w' ⟨p2, q2, rfl, ⟨t2, rfl⟩, ho⟩; have O2 := hid ho; clear ho) | (go_at_call 42; (with_reducible refine (toIntSS_c o.air h.a3 o.air.length h.c3 _ (H3.out.of (by ((try simp only [ext_drew]); (try simp only [ext_ext]); repeat (first | exact Ext.refl _ | with_reducible apply Ext.add | with_reducible apply Ext.dr | apply Ext.alloc | apply Ext.ext | apply Ext.drew | refine Ext.trans ?_ (by assumption))))) B3 BA.out).mono ?_); rintro e w' ⟨p3, q3, rfl, ⟨t3, rfl⟩, ho⟩; have O3 := hid ho; clear ho)
      | (
        with_reducible refine wp_region_mix (by kernel_rfl) (by decide +kernel) ?_
        repeat (first
          | (refine mix_pure rfl ?_; (first | go_big_quiet_skip | (go_big_quiet_want; go_big_quiet_op; go_big_quiet_on)); refine wpQuiet_nil ?_)
          | (refine mix_skip (by rfl) ?_; (try simp only [Act.put, List.setIfInBounds_toArray, List.set_cons_zero, List.set_cons_succ]))
          | (refine mix_mk rfl (by rfl) (fun K hK => ?_); (first | (go_simp; first | (go_at_call 9; refine (toMp_c _ _).mono ?_; rintro e w' ⟨rfl, t, rfl⟩) | (go_at_call 41; (with_reducible refine (toOnwS_c o.wk h.a1 o.wk.length h.c1 _ (H1.out.of (by ((try simp only [ext_drew]); (try simp only [ext_ext]); repeat (first | exact Ext.refl _ | with_reducible apply Ext.add | with_reducible apply Ext.dr | apply Ext.alloc | apply Ext.ext | apply Ext.drew | refine Ext.trans ?_ (by assumption))))) B1).mono ?_); rintro e w' ⟨p1, q1, rfl, ⟨t1, rfl⟩, ho⟩; have O1 := hid ho; clear ho) | (go_at_call 30; (with_reducible refine (toIntS_c o.ground h.a2 o.ground.length h.c2 _ (H2.out.of (by ((try simp only [ext_drew]); (try simp only [ext_ext]); repeat (first | exact Ext.refl _ | with_reducible apply Ext.add | with_reducible apply Ext.dr | apply Ext.alloc | apply Ext.ext | apply Ext.drew | refine Ext.trans ?_ (by assumption))))) B2).mono ?_); rintro e w' ⟨p2, q2, rfl, ⟨t2, rfl⟩, ho⟩; have O2 := hid ho; clear ho) | (go_at_call 42; (with_reducible refine (toIntSS_c o.air h.a3 o.air.length h.c3 _ (H3.out.of (by ((try simp only [ext_drew]); (try simp only [ext_ext]); repeat (first | exact Ext.refl _ | with_reducible apply Ext.add | with_reducible apply Ext.dr | apply Ext.alloc | apply Ext.ext | apply Ext.drew | refine Ext.trans ?_ (by assumption))))) B3 BA.out).mono ?_); rintro e w' ⟨p3, q3, rfl, ⟨t3, rfl⟩, ho⟩; have O3 := hid ho; clear ho) | skip)); (show K _ _); refine hK _ _ (show Ext _ _ from (by ((try simp only [ext_drew]); (try simp only [ext_ext]); repeat (first | exact Ext.refl _ | with_reducible apply Ext.add | with_reducible apply Ext.dr | apply Ext.alloc | apply Ext.ext | apply Ext.drew | refine Ext.trans ?_ (by assumption))))) ?_; clear hK K; (try simp only [Act.put, List.setIfInBounds_toArray, List.set_cons_zero, List.set_cons_succ])))
        refine mix_nil ?_)
      | (
        with_reducible refine wp_region_ext (by kernel_rfl) (by kernel_rfl) ?_
        repeat (first | go_big_quiet_skip | (go_big_quiet_want; go_big_quiet_op; first | go_big_quiet_on | (apply Exists.intro; refine ⟨fun _ => ?_, ?_⟩; ((first | (go_at_call 9; first | exact quiet_call (toMp_c _ _) | exact quiet_call2 (toMp_c _ _)))); (try rw [h1]); (try rw [h2]); (try rw [h3]); (try rw [h4]); (try rw [p1]); (try rw [p2]); (try rw [p3]); (try rw [p4]); (try rw [r1]); (try rw [r2]); (try rw [r3]); (try rw [r4]); (try rw [r5]); (try rw [r6]); (try rw [q3]); (try rw [q4]); (try rw [hp]); (try rw [hq]); go_big_quiet_on)))
        refine wpQuiet_nil ?_
        rintro _ ⟨tq, rfl⟩))
  refine bodyPost_ret (v := .agg #[.int .i64 o.map.c, .int .i64 o.map.w, .slice p1 o.wk.length q1, .slice p2 o.ground.length q2, .slice p3 o.air.length q3]) (by simp [results, Try.results17, go_sem]) rfl ?_
  refine ⟨⟨p1, q1, p2, q2, p3, q3⟩, rfl, (by ((try simp only [ext_drew]); (try simp only [ext_ext]); repeat (first | exact Ext.refl _ | with_reducible apply Ext.add | with_reducible apply Ext.dr | apply Ext.alloc | apply Ext.ext | apply Ext.drew | refine Ext.trans ?_ (by assumption)))), ?_⟩
  have Q1 := O1.out
  (try rw [ext_ext] at Q1)
  have Q2 := O2.out
  (try rw [ext_ext] at Q2)
  have Q3 := O3.out
  (try rw [ext_ext] at Q3)
  exact OwnRL.st (OwnRL.lo (OwnRL.one (s := sMp) (v1 := o.map.cells) (d := o.map.dat) (own_Mp_mk _ _) (OwnRL.cons' (OwnR.fin Q1 (by ((try simp only [ext_drew]); (try simp only [ext_ext]); repeat (first | exact Ext.refl _ | with_reducible apply Ext.add | with_reducible apply Ext.dr | apply Ext.alloc | apply Ext.ext | apply Ext.drew | refine Ext.trans ?_ (by assumption)))) (by simp) (by simp [go_sem])) (OwnRL.cons' (OwnR.fin Q2 (by ((try simp only [ext_drew]); (try simp only [ext_ext]); repeat (first | exact Ext.refl _ | with_reducible apply Ext.add | with_reducible apply Ext.dr | apply Ext.alloc | apply Ext.ext | apply Ext.drew | refine Ext.trans ?_ (by assumption)))) (by simp) (by simp [go_sem])) (OwnRL.cons' (OwnR.fin Q3 (by ((try simp only [ext_drew]); (try simp only [ext_ext]); repeat (first | exact Ext.refl _ | with_reducible apply Ext.add | with_reducible apply Ext.dr | apply Ext.alloc | apply Ext.ext | apply Ext.drew | refine Ext.trans ?_ (by assumption)))) (by simp) (by simp [go_sem])) (OwnRL.nil' (Nat.le_refl _)) (by (try simp [go_sem]) <;> (try simp [Xt.add]) <;> omega) (by (try simp [go_sem]) <;> (try simp [Xt.add]) <;> omega) (by (try simp [go_sem]) <;> (try simp [Xt.add]) <;> omega)) (by (try simp [go_sem]) <;> (try simp [Xt.add]) <;> omega) (by (try simp [go_sem]) <;> (try simp [Xt.add]) <;> omega) (by (try simp [go_sem]) <;> (try simp [Xt.add]) <;> omega)) (by (try simp [go_sem]) <;> (try simp [Xt.add]) <;> omega) (by (try simp [go_sem]) <;> (try simp [Xt.add]) <;> omega) (by (try simp [go_sem]) <;> (try simp [Xt.add]) <;> omega))) (by (try simp [go_sem]) <;> (try simp [Xt.add]) <;> omega))

theorem eqOne_c (o : One) (h h' : OneH) (w : World) (hx : ReO w o h) (hx' : ReO w o h') (hb : BdO o) :
    Calls Try.prog 19 #[.agg #[.int .i64 o.map.c, .int .i64 o.map.w, .slice h.a1 o.wk.length h.c1, .slice h.a2 o.ground.length h.c2, .slice h.a3 o.air.length h.c3], .agg #[.int .i64 o.map.c, .int .i64 o.map.w, .slice h'.a1 o.wk.length h'.c1, .slice h'.a2 o.ground.length h'.c2, .slice h'.a3 o.air.length h'.c3]] w fun e w' => e = .returned (.bool true) ∧ Ext w w' := by
  have H1 := hid hx.r1
  have H2 := hid hx.r2
  have H3 := hid hx.r3
  have H1' := hid hx'.r1
  have H2' := hid hx'.r2
  have H3' := hid hx'.r3
  have B1 := hb.b1
  have B2 := hb.b2
  have B3 := hb.b3
  have BA := hid hb.ba
  clear hx hx' hb
  go_enter Try.func19, Try.ntmps19
  try go_wp2_with (first
      | (go_at_call 46; refine (eqMp_c _ _).mono ?_; rintro e w' ⟨rfl, t, rfl⟩) | (go_at_call 47; refine (eqOnwS_c _ _ _ _ _ _ _ (Re.of (Hid.out (by assumption)) (by ((try simp only [ext_drew]); (try simp only [ext_ext]); repeat (first | exact Ext.refl _ | with_reducible apply Ext.add | with_reducible apply Ext.dr | apply Ext.alloc | apply Ext.ext | apply Ext.drew | refine Ext.trans ?_ (by assumption))))) (Re.of (Hid.out (by assumption)) (by ((try simp only [ext_drew]); (try simp only [ext_ext]); repeat (first | exact Ext.refl _ | with_reducible apply Ext.add | with_reducible apply Ext.dr | apply Ext.alloc | apply Ext.ext | apply Ext.drew | refine Ext.trans ?_ (by assumption))))) (by omega)).mono ?_; rintro e w' ⟨rfl, t, rfl⟩) | (go_at_call 34; refine (eqIntS_c _ _ _ _ _ _ _ (Re.of (Hid.out (by assumption)) (by ((try simp only [ext_drew]); (try simp only [ext_ext]); repeat (first | exact Ext.refl _ | with_reducible apply Ext.add | with_reducible apply Ext.dr | apply Ext.alloc | apply Ext.ext | apply Ext.drew | refine Ext.trans ?_ (by assumption))))) (Re.of (Hid.out (by assumption)) (by ((try simp only [ext_drew]); (try simp only [ext_ext]); repeat (first | exact Ext.refl _ | with_reducible apply Ext.add | with_reducible apply Ext.dr | apply Ext.alloc | apply Ext.ext | apply Ext.drew | refine Ext.trans ?_ (by assumption))))) (by omega)).mono ?_; rintro e w' ⟨rfl, t, rfl⟩) | (go_at_call 48; refine (eqIntSS_c _ _ _ _ _ _ _ (Re.of (Hid.out (by assumption)) (by ((try simp only [ext_drew]); (try simp only [ext_ext]); repeat (first | exact Ext.refl _ | with_reducible apply Ext.add | with_reducible apply Ext.dr | apply Ext.alloc | apply Ext.ext | apply Ext.drew | refine Ext.trans ?_ (by assumption))))) (Re.of (Hid.out (by assumption)) (by ((try simp only [ext_drew]); (try simp only [ext_ext]); repeat (first | exact Ext.refl _ | with_reducible apply Ext.add | with_reducible apply Ext.dr | apply Ext.alloc | apply Ext.ext | apply Ext.drew | refine Ext.trans ?_ (by assumption))))) (by omega) (Hid.out (by assumption))).mono ?_; rintro e w' ⟨rfl, t, rfl⟩)
      | (
        with_reducible refine wp_region_mix (by kernel_rfl) (by decide +kernel) ?_
        repeat (first
          | (refine mix_pure rfl ?_; (first | go_big_quiet_skip | (go_big_quiet_want; go_big_quiet_op; go_big_quiet_on)); refine wpQuiet_nil ?_)
          | (refine mix_skip (by rfl) ?_; (try simp only [Act.put, List.setIfInBounds_toArray, List.set_cons_zero, List.set_cons_succ]))
          | (refine mix_mk rfl (by rfl) (fun K hK => ?_); (first | (go_simp; first | (go_at_call 46; refine (eqMp_c _ _).mono ?_; rintro e w' ⟨rfl, t, rfl⟩) | (go_at_call 47; refine (eqOnwS_c _ _ _ _ _ _ _ (Re.of (Hid.out (by assumption)) (by ((try simp only [ext_drew]); (try simp only [ext_ext]); repeat (first | exact Ext.refl _ | with_reducible apply Ext.add | with_reducible apply Ext.dr | apply Ext.alloc | apply Ext.ext | apply Ext.drew | refine Ext.trans ?_ (by assumption))))) (Re.of (Hid.out (by assumption)) (by ((try simp only [ext_drew]); (try simp only [ext_ext]); repeat (first | exact Ext.refl _ | with_reducible apply Ext.add | with_reducible apply Ext.dr | apply Ext.alloc | apply Ext.ext | apply Ext.drew | refine Ext.trans ?_ (by assumption))))) (by omega)).mono ?_; rintro e w' ⟨rfl, t, rfl⟩) | (go_at_call 34; refine (eqIntS_c _ _ _ _ _ _ _ (Re.of (Hid.out (by assumption)) (by ((try simp only [ext_drew]); (try simp only [ext_ext]); repeat (first | exact Ext.refl _ | with_reducible apply Ext.add | with_reducible apply Ext.dr | apply Ext.alloc | apply Ext.ext | apply Ext.drew | refine Ext.trans ?_ (by assumption))))) (Re.of (Hid.out (by assumption)) (by ((try simp only [ext_drew]); (try simp only [ext_ext]); repeat (first | exact Ext.refl _ | with_reducible apply Ext.add | with_reducible apply Ext.dr | apply Ext.alloc | apply Ext.ext | apply Ext.drew | refine Ext.trans ?_ (by assumption))))) (by omega)).mono ?_; rintro e w' ⟨rfl, t, rfl⟩) | (go_at_call 48; refine (eqIntSS_c _ _ _ _ _ _ _ (Re.of (Hid.out (by assumption)) (by ((try simp only [ext_drew]); (try simp only [ext_ext]); repeat (first | exact Ext.refl _ | with_reducible apply Ext.add | with_reducible apply Ext.dr | apply Ext.alloc | apply Ext.ext | apply Ext.drew | refine Ext.trans ?_ (by assumption))))) (Re.of (Hid.out (by assumption)) (by ((try simp only [ext_drew]); (try simp only [ext_ext]); repeat (first | exact Ext.refl _ | with_reducible apply Ext.add | with_reducible apply Ext.dr | apply Ext.alloc | apply Ext.ext | apply Ext.drew | refine Ext.trans ?_ (by assumption))))) (by omega) (Hid.out (by assumption))).mono ?_; rintro e w' ⟨rfl, t, rfl⟩) | skip)); (show K _ _); refine hK _ _ (show Ext _ _ from (by ((try simp only [ext_drew]); (try simp only [ext_ext]); repeat (first | exact Ext.refl _ | with_reducible apply Ext.add | with_reducible apply Ext.dr | apply Ext.alloc | apply Ext.ext | apply Ext.drew | refine Ext.trans ?_ (by assumption))))) ?_; clear hK K; (try simp only [Act.put, List.setIfInBounds_toArray, List.set_cons_zero, List.set_cons_succ])))
        refine mix_nil ?_)
      | (
        with_reducible refine wp_region_ext (by kernel_rfl) (by kernel_rfl) ?_
        repeat (first | go_big_quiet_skip | (go_big_quiet_want; go_big_quiet_op; first | go_big_quiet_on | (apply Exists.intro; refine ⟨fun _ => ?_, ?_⟩; ((first | (go_at_call 46; first | exact quiet_call (eqMp_c _ _) | exact quiet_call2 (eqMp_c _ _)) | (go_at_call 47; first | exact quiet_call (eqOnwS_c _ _ _ _ _ _ _ (Re.of (Hid.out (by assumption)) (by ((try simp only [ext_drew]); (try simp only [ext_ext]); repeat (first | exact Ext.refl _ | with_reducible apply Ext.add | with_reducible apply Ext.dr | apply Ext.alloc | apply Ext.ext | apply Ext.drew | refine Ext.trans ?_ (by assumption))))) (Re.of (Hid.out (by assumption)) (by ((try simp only [ext_drew]); (try simp only [ext_ext]); repeat (first | exact Ext.refl _ | with_reducible apply Ext.add | with_reducible apply Ext.dr | apply Ext.alloc | apply Ext.ext | apply Ext.drew | refine Ext.trans ?_ (by assumption))))) (by omega)) | exact quiet_call2 (eqOnwS_c _ _ _ _ _ _ _ (Re.of (Hid.out (by assumption)) (by ((try simp only [ext_drew]); (try simp only [ext_ext]); repeat (first | exact Ext.refl _ | with_reducible apply Ext.add | with_reducible apply Ext.dr | apply Ext.alloc | apply Ext.ext | apply Ext.drew | refine Ext.trans ?_ (by assumption))))) (Re.of (Hid.out (by assumption)) (by ((try simp only [ext_drew]); (try simp only [ext_ext]); repeat (first | exact Ext.refl _ | with_reducible apply Ext.add | with_reducible apply Ext.dr | apply Ext.alloc | apply Ext.ext | apply Ext.drew | refine Ext.trans ?_ (by assumption))))) (by omega))) | (go_at_call 34; first | exact quiet_call (eqIntS_c _ _ _ _ _ _ _ (Re.of (Hid.out (by assumption)) (by ((try simp only [ext_drew]); (try simp only [ext_ext]); repeat (first | exact Ext.refl _ | with_reducible apply Ext.add | with_reducible apply Ext.dr | apply Ext.alloc | apply Ext.ext | apply Ext.drew | refine Ext.trans ?_ (by assumption))))) (Re.of (Hid.out (by assumption)) (by ((try simp only [ext_drew]); (try simp only [ext_ext]); repeat (first | exact Ext.refl _ | with_reducible apply Ext.add | with_reducible apply Ext.dr | apply Ext.alloc | apply Ext.ext | apply Ext.drew | refine Ext.trans ?_ (by assumption))))) (by omega)) | exact quiet_call2 (eqIntS_c _ _ _ _ _ _ _ (Re.of (Hid.out (by assumption)) (by ((try simp only [ext_drew]); (try simp only [ext_ext]); repeat (first | exact Ext.refl _ | with_reducible apply Ext.add | with_reducible apply Ext.dr | apply Ext.alloc | apply Ext.ext | apply Ext.drew | refine Ext.trans ?_ (by assumption))))) (Re.of (Hid.out (by assumption)) (by ((try simp only [ext_drew]); (try simp only [ext_ext]); repeat (first | exact Ext.refl _ | with_reducible apply Ext.add | with_reducible apply Ext.dr | apply Ext.alloc | apply Ext.ext | apply Ext.drew | refine Ext.trans ?_ (by assumption))))) (by omega))) | (go_at_call 48; first | exact quiet_call (eqIntSS_c _ _ _ _ _ _ _ (Re.of (Hid.out (by assumption)) (by ((try simp only [ext_drew]); (try simp only [ext_ext]); repeat (first | exact Ext.refl _ | with_reducible apply Ext.add | with_reducible apply Ext.dr | apply Ext.alloc | apply Ext.ext | apply Ext.drew | refine Ext.trans ?_ (by assumption))))) (Re.of (Hid.out (by assumption)) (by ((try simp only [ext_drew]); (try simp only [ext_ext]); repeat (first | exact Ext.refl _ | with_reducible apply Ext.add | with_reducible apply Ext.dr | apply Ext.alloc | apply Ext.ext | apply Ext.drew | refine Ext.trans ?_ (by assumption))))) (by omega) (Hid.out (by assumption))) | exact quiet_call2 (eqIntSS_c _ _ _ _ _ _ _ (Re.of (Hid.out (by assumption)) (by ((try simp only [ext_drew]); (try simp only [ext_ext]); repeat (first | exact Ext.refl _ | with_reducible apply Ext.add | with_reducible apply Ext.dr | apply Ext.alloc | apply Ext.ext | apply Ext.drew | refine Ext.trans ?_ (by assumption))))) (Re.of (Hid.out (by assumption)) (by ((try simp only [ext_drew]); (try simp only [ext_ext]); repeat (first | exact Ext.refl _ | with_reducible apply Ext.add | with_reducible apply Ext.dr | apply Ext.alloc | apply Ext.ext | apply Ext.drew | refine Ext.trans ?_ (by assumption))))) (by omega) (Hid.out (by assumption)))))); (try rw [h1]); (try rw [h2]); (try rw [h3]); (try rw [h4]); (try rw [p1]); (try rw [p2]); (try rw [p3]); (try rw [p4]); (try rw [r1]); (try rw [r2]); (try rw [r3]); (try rw [r4]); (try rw [r5]); (try rw [r6]); (try rw [q3]); (try rw [q4]); (try rw [hp]); (try rw [hq]); go_big_quiet_on)))
        refine wpQuiet_nil ?_
        rintro _ ⟨tq, rfl⟩))
  go_ret
  exact ⟨rfl, (by ((try simp only [ext_drew]); (try simp only [ext_ext]); repeat (first | exact Ext.refl _ | with_reducible apply Ext.add | with_reducible apply Ext.dr | apply Ext.alloc | apply Ext.ext | apply Ext.drew | refine Ext.trans ?_ (by assumption))))⟩
end Go.Proofs.Ytcfbfpgcfnpdgaa
