/- How many coins there are in the one world. -/
import Derived.Test.YteepfcdjaakdfaaOneOkS
import Derived.Test.YteepfcdjaakdfaaSum
namespace Go.Proofs.Yteepfcdjaakdfaa
open Go.RowKit
set_option linter.unusedSimpArgs false
set_option linter.unusedVariables false

def onwCoins (x : Onw) : Int := x.wk.coins
def purseSum (p : Int × List Int) : Int := p.1 + (p.2[0]?).getD 0 + (p.2[1]?).getD 0
def oneCoins (o : One) : Int := if oneOk o = true then sumBy onwCoins o.wk + sumBy purseSum (o.ground.zip o.air) else 0
theorem wlk_coins1 {m : Mp} {x : Wlk} (h : wlkOk m x = true) : 0 ≤ x.coins ∧ x.coins ≤ 99 := by
  simp only [wlkOk, ranged, Bool.and_eq_true] at h
  exact inB_iff.1 h.2.1.1.2
/-- What is true of the one world that is ok. -/
structure OneB (o : One) : Prop where
  l2 : (o.ground.length : Int) = o.map.c
  l3 : o.air.length = o.ground.length
  lc : (o.ground.length : Int) ≤ 4
  wb : ∀ x ∈ o.wk, 0 ≤ onwCoins x ∧ onwCoins x ≤ 99
  pb : ∀ (k : Nat) (g : Int) (xs : List Int), o.ground[k]? = some g → o.air[k]? = some xs → ∃ l r, xs = [l, r] ∧ (0 ≤ g ∧ g ≤ 900) ∧ (0 ≤ l ∧ l ≤ 100000) ∧ (0 ≤ r ∧ r ≤ 100000)
theorem OneB.of {o : One} (h : oneOk o = true) : OneB o := by
  simp only [oneOk, purses, Bool.and_eq_true, beq_iff_eq] at h
  obtain ⟨h1, ⟨h2, h3, h4⟩, h5⟩ := h
  have hc := (plcOk_iff.1 h1).1
  refine ⟨h2, by omega, by omega, fun x hx => ?_, fun k g xs hg hxs => ?_⟩
  · obtain ⟨k, hk⟩ := List.getElem?_of_mem hx
    have := allI_iff.1 h5 k x.wk (oneWk_get hk)
    simp only [wlkAt, Bool.and_eq_true] at this
    exact wlk_coins1 this.1
  · have := allI_iff.1 h4 k g hg
    rw [Nat.zero_add, purseAt_eq hxs] at this
    simp only [Bool.and_eq_true] at this
    obtain ⟨q1, q2⟩ := this
    match xs, q2 with
    | [l, r], q2 =>
      simp only [airOk, Bool.and_eq_true] at q2
      exact ⟨l, r, rfl, inB_iff.1 q1, inB_iff.1 q2.1, inB_iff.1 q2.2⟩
theorem OneB.wsum {o : One} (h : OneB o) (hb : BdO o) (k : Nat) : 0 ≤ sumBy onwCoins (o.wk.take k) ∧ sumBy onwCoins (o.wk.take k) ≤ 103809024 := by
  have := sumBy_le onwCoins 99 (o.wk.take k) (fun x hx => h.wb x (List.mem_of_mem_take hx))
  have hl : ((o.wk.take k).length : Int) ≤ 1048576 := by have := hb.b1; rw [List.length_take]; omega
  omega
theorem OneB.psum {o : One} (h : OneB o) (k : Nat) : 0 ≤ sumBy purseSum ((o.ground.zip o.air).take k) ∧ sumBy purseSum ((o.ground.zip o.air).take k) ≤ 803600 := by
  have := sumBy_le purseSum 200900 ((o.ground.zip o.air).take k) (fun p hp => by
    obtain ⟨j, hj⟩ := List.getElem?_of_mem (List.mem_of_mem_take hp)
    obtain ⟨g, xs⟩ := p
    obtain ⟨hg, hx⟩ := List.getElem?_zip_eq_some.1 hj
    obtain ⟨l, r, rfl, h1, h2, h3⟩ := h.pb j g xs hg hx
    simp only [purseSum, List.getElem?_cons_zero, List.getElem?_cons_succ, Option.getD_some]
    omega)
  have hl : (((o.ground.zip o.air).take k).length : Int) ≤ 4 := by have := h.lc; rw [List.length_take, List.length_zip]; omega
  omega
set_option maxRecDepth 100000 in
set_option maxHeartbeats 4000000 in
theorem iOneCoins_c (o : One) (h : OneH) (w : World) (hx : ReO w o h) (hb : BdO o) :
    Calls Try.prog 46 #[.agg #[.int .i64 o.map.c, .int .i64 o.map.w, .slice h.a1 o.wk.length h.c1, .slice h.a2 o.ground.length h.c2, .slice h.a3 o.air.length h.c3]] w fun e w' => e = .returned (.int .i64 (oneCoins o)) ∧ Ext w w' := by
  have HX := hid hx
  have HBD := hid hb
  cases r0 : oneOk o with
  | false =>
    have E := hid (show oneCoins o = 0 by simp [oneCoins, r0])
    clear hx hb
    go_enter Try.func46, Try.ntmps46
    try go_wp2_with (first
        | (go_at_call 43; refine (iOneOk_c _ _ _ (ReO.of (Hid.out (by assumption)) (by ((try simp only [ext_drew]); (try simp only [ext_ext]); repeat (first | exact Ext.refl _ | with_reducible apply Ext.add | with_reducible apply Ext.dr | apply Ext.alloc | apply Ext.ext | apply Ext.drew | refine Ext.trans ?_ (by assumption))))) (Hid.out (by assumption))).mono ?_; rintro e w' ⟨rfl, t, rfl⟩)
        | (
          with_reducible refine wp_region_mix (by kernel_rfl) (by decide +kernel) ?_
          repeat (first
            | (refine mix_pure rfl ?_; (first | go_big_quiet_skip | (go_big_quiet_want; go_big_quiet_op; go_big_quiet_on)); refine wpQuiet_nil ?_)
            | (refine mix_skip (by rfl) ?_; (try simp only [Act.put, List.setIfInBounds_toArray, List.set_cons_zero, List.set_cons_succ]))
            | (refine mix_mk rfl (by rfl) (fun K hK => ?_); (first | (go_simp; first | (go_at_call 43; refine (iOneOk_c _ _ _ (ReO.of (Hid.out (by assumption)) (by ((try simp only [ext_drew]); (try simp only [ext_ext]); repeat (first | exact Ext.refl _ | with_reducible apply Ext.add | with_reducible apply Ext.dr | apply Ext.alloc | apply Ext.ext | apply Ext.drew | refine Ext.trans ?_ (by assumption))))) (Hid.out (by assumption))).mono ?_; rintro e w' ⟨rfl, t, rfl⟩) | skip)); (show K _ _); refine hK _ _ (show Ext _ _ from (by ((try simp only [ext_drew]); (try simp only [ext_ext]); repeat (first | exact Ext.refl _ | with_reducible apply Ext.add | with_reducible apply Ext.dr | apply Ext.alloc | apply Ext.ext | apply Ext.drew | refine Ext.trans ?_ (by assumption))))) ?_; clear hK K; (try simp only [Act.put, List.setIfInBounds_toArray, List.set_cons_zero, List.set_cons_succ])))
          refine mix_nil ?_)
        | (
          with_reducible refine wp_region_ext (by kernel_rfl) (by kernel_rfl) ?_
          repeat (first | go_big_quiet_skip | (go_big_quiet_want; go_big_quiet_op; first | go_big_quiet_on | (apply Exists.intro; refine ⟨fun _ => ?_, ?_⟩; ((first | (go_at_call 43; first | exact quiet_call (iOneOk_c _ _ _ (ReO.of (Hid.out (by assumption)) (by ((try simp only [ext_drew]); (try simp only [ext_ext]); repeat (first | exact Ext.refl _ | with_reducible apply Ext.add | with_reducible apply Ext.dr | apply Ext.alloc | apply Ext.ext | apply Ext.drew | refine Ext.trans ?_ (by assumption))))) (Hid.out (by assumption))) | exact quiet_call2 (iOneOk_c _ _ _ (ReO.of (Hid.out (by assumption)) (by ((try simp only [ext_drew]); (try simp only [ext_ext]); repeat (first | exact Ext.refl _ | with_reducible apply Ext.add | with_reducible apply Ext.dr | apply Ext.alloc | apply Ext.ext | apply Ext.drew | refine Ext.trans ?_ (by assumption))))) (Hid.out (by assumption)))))); (try rw [h1]); (try rw [h2]); (try rw [h3]); (try rw [h4]); (try rw [p1]); (try rw [p2]); (try rw [p3]); (try rw [p4]); (try rw [r1]); (try rw [r2]); (try rw [r3]); (try rw [r4]); (try rw [r5]); (try rw [r6]); (try rw [q3]); (try rw [q4]); (try rw [hp]); (try rw [hq]); go_big_quiet_on)))
          refine wpQuiet_nil ?_
          rintro _ ⟨tq, rfl⟩))
    go_ret
    exact ⟨ret_int (by rw [E.out]), (by ((try simp only [ext_drew]); (try simp only [ext_ext]); repeat (first | exact Ext.refl _ | with_reducible apply Ext.add | with_reducible apply Ext.dr | apply Ext.alloc | apply Ext.ext | apply Ext.drew | refine Ext.trans ?_ (by assumption))))⟩
  | true =>
    have E := hid (show oneCoins o = sumBy onwCoins o.wk + sumBy purseSum (o.ground.zip o.air) by simp [oneCoins, r0])
    have HC := hid (OneB.of r0)
    have H1 := hid hx.r1
    have H2 := hid hx.r2
    have H3 := hid hx.r3
    have B1 := hb.b1
    have B2 := hb.b2
    clear hx hb
    obtain ⟨a1, c1, a2, c2, a3, c3⟩ := h
    dsimp only at H1 H2 H3 ⊢
    go_enter Try.func46, Try.ntmps46
    try go_wp2_with (first
        | (go_at_call 43; (with_reducible refine (iOneOk_c o ⟨a1, c1, a2, c2, a3, c3⟩ _ (ReO.of HX.out (by ((try simp only [ext_drew]); (try simp only [ext_ext]); repeat (first | exact Ext.refl _ | with_reducible apply Ext.add | with_reducible apply Ext.dr | apply Ext.alloc | apply Ext.ext | apply Ext.drew | refine Ext.trans ?_ (by assumption))))) HBD.out).mono ?_); rintro e w' ⟨rfl, t, rfl⟩)
        | (
          with_reducible refine wp_region_mix (by kernel_rfl) (by decide +kernel) ?_
          repeat (first
            | (refine mix_pure rfl ?_; (first | go_big_quiet_skip | (go_big_quiet_want; go_big_quiet_op; go_big_quiet_on)); refine wpQuiet_nil ?_)
            | (refine mix_skip (by rfl) ?_; (try simp only [Act.put, List.setIfInBounds_toArray, List.set_cons_zero, List.set_cons_succ]))
            | (refine mix_mk rfl (by rfl) (fun K hK => ?_); (first | (go_simp; first | (go_at_call 43; (with_reducible refine (iOneOk_c o ⟨a1, c1, a2, c2, a3, c3⟩ _ (ReO.of HX.out (by ((try simp only [ext_drew]); (try simp only [ext_ext]); repeat (first | exact Ext.refl _ | with_reducible apply Ext.add | with_reducible apply Ext.dr | apply Ext.alloc | apply Ext.ext | apply Ext.drew | refine Ext.trans ?_ (by assumption))))) HBD.out).mono ?_); rintro e w' ⟨rfl, t, rfl⟩) | skip)); (show K _ _); refine hK _ _ (show Ext _ _ from (by ((try simp only [ext_drew]); (try simp only [ext_ext]); repeat (first | exact Ext.refl _ | with_reducible apply Ext.add | with_reducible apply Ext.dr | apply Ext.alloc | apply Ext.ext | apply Ext.drew | refine Ext.trans ?_ (by assumption))))) ?_; clear hK K; (try simp only [Act.put, List.setIfInBounds_toArray, List.set_cons_zero, List.set_cons_succ])))
          refine mix_nil ?_)
        | (
          with_reducible refine wp_region_ext (by kernel_rfl) (by kernel_rfl) ?_
          repeat (first | go_big_quiet_skip | (go_big_quiet_want; go_big_quiet_op; first | go_big_quiet_on | (apply Exists.intro; refine ⟨fun _ => ?_, ?_⟩; (fail); (try rw [h1]); (try rw [h2]); (try rw [h3]); (try rw [h4]); (try rw [p1]); (try rw [p2]); (try rw [p3]); (try rw [p4]); (try rw [r1]); (try rw [r2]); (try rw [r3]); (try rw [r4]); (try rw [r5]); (try rw [r6]); (try rw [q3]); (try rw [q4]); (try rw [hp]); (try rw [hq]); go_big_quiet_on)))
          refine wpQuiet_nil ?_
          rintro _ ⟨tq, rfl⟩))
    go_loopw [3, 14] (fun s i wr => ∃ (k : Nat) (q : Int), k ≤ o.wk.length ∧ i = .int .i64 k ∧ s = .int .i64 q ∧ 0 ≤ q ∧ q ≤ 900000000 ∧ q = sumBy onwCoins (o.wk.take k) ∧ Ext (w.alloc (Obj.cells #[.int .i64 o.map.c, .int .i64 o.map.w, .slice a1 o.wk.length c1, .slice a2 o.ground.length c2, .slice a3 o.air.length c3] 80)) wr) (fun _ i _ => o.wk.length - (intOf i).toNat)
    case atStart => exact ⟨0, 0, Nat.zero_le _, rfl, rfl, by omega, by omega, by simp [sumBy], (by ((try simp only [ext_drew]); (try simp only [ext_ext]); repeat (first | exact Ext.refl _ | with_reducible apply Ext.add | with_reducible apply Ext.dr | apply Ext.alloc | apply Ext.ext | apply Ext.drew | refine Ext.trans ?_ (by assumption))))⟩
    case round =>
      obtain ⟨k, q, hk, rfl, rfl, q0, q1, hq, t', rfl⟩ := hrel
      have HQ := hid hq
      clear hq
      by_cases hlt : k < o.wk.length
      · obtain ⟨x, b, o1, hxk, rfl, hb, f0, f1, f2, f3, f4, f5⟩ := at_Onw H1.out hlt
        have hb1 : b ≤ w.heap.size := Nat.le_of_lt hb
        have hxc := HC.out.wb x (List.mem_of_getElem? hxk)
        have hc0 : 0 ≤ x.wk.coins := hxc.1
        have hc1 : x.wk.coins ≤ 99 := hxc.2
        have hbn := HC.out.wsum HBD.out k
        have HS := hid (show sumBy onwCoins (o.wk.take (k + 1)) = sumBy onwCoins (o.wk.take k) + x.wk.coins from sumBy_step onwCoins hxk)
        have hq2 : q + x.wk.coins ≤ 900000000 := by have := HQ.out; omega
        clear hxk hxc hbn
        try go_wp2_with (first
            | fail
            | (
              with_reducible refine wp_region_mix (by kernel_rfl) (by decide +kernel) ?_
              repeat (first
                | (refine mix_pure rfl ?_; (first | go_big_quiet_skip | (go_big_quiet_want; go_big_quiet_op; go_big_quiet_on)); refine wpQuiet_nil ?_)
                | (refine mix_skip (by rfl) ?_; (try simp only [Act.put, List.setIfInBounds_toArray, List.set_cons_zero, List.set_cons_succ]))
                | (refine mix_mk rfl (by rfl) (fun K hK => ?_); (first | (go_simp; first | skip)); (show K _ _); refine hK _ _ (show Ext _ _ from (by ((try simp only [ext_drew]); (try simp only [ext_ext]); repeat (first | exact Ext.refl _ | with_reducible apply Ext.add | with_reducible apply Ext.dr | apply Ext.alloc | apply Ext.ext | apply Ext.drew | refine Ext.trans ?_ (by assumption))))) ?_; clear hK K; (try simp only [Act.put, List.setIfInBounds_toArray, List.set_cons_zero, List.set_cons_succ])))
              refine mix_nil ?_)
            | (
              with_reducible refine wp_region_ext (by kernel_rfl) (by kernel_rfl) ?_
              repeat (first | go_big_quiet_skip | (go_big_quiet_want; go_big_quiet_op; first | go_big_quiet_on | (apply Exists.intro; refine ⟨fun _ => ?_, ?_⟩; (fail); (try rw [h1]); (try rw [h2]); (try rw [h3]); (try rw [h4]); (try rw [p1]); (try rw [p2]); (try rw [p3]); (try rw [p4]); (try rw [r1]); (try rw [r2]); (try rw [r3]); (try rw [r4]); (try rw [r5]); (try rw [r6]); (try rw [q3]); (try rw [q4]); (try rw [hp]); (try rw [hq]); go_big_quiet_on)))
              refine wpQuiet_nil ?_
              rintro _ ⟨tq, rfl⟩))
        go_roundw
        case rel => exact ⟨k + 1, q + x.wk.coins, by omega, by go_num, rfl, by omega, hq2, by rw [HS.out, HQ.out], (by ((try simp only [ext_drew]); (try simp only [ext_ext]); repeat (first | exact Ext.refl _ | with_reducible apply Ext.add | with_reducible apply Ext.dr | apply Ext.alloc | apply Ext.ext | apply Ext.drew | refine Ext.trans ?_ (by assumption))))⟩
        case measure => simp [intOf]; omega
      · have HW := hid (show q = sumBy onwCoins o.wk by rw [HQ.out, sumBy_all _ (by omega)])
        have hq9 : q ≤ 400000000 := by have := HC.out.wsum HBD.out k; have := HQ.out; omega
        try go_wp2_with (first
            | fail
            | (
              with_reducible refine wp_region_mix (by kernel_rfl) (by decide +kernel) ?_
              repeat (first
                | (refine mix_pure rfl ?_; (first | go_big_quiet_skip | (go_big_quiet_want; go_big_quiet_op; go_big_quiet_on)); refine wpQuiet_nil ?_)
                | (refine mix_skip (by rfl) ?_; (try simp only [Act.put, List.setIfInBounds_toArray, List.set_cons_zero, List.set_cons_succ]))
                | (refine mix_mk rfl (by rfl) (fun K hK => ?_); (first | (go_simp; first | skip)); (show K _ _); refine hK _ _ (show Ext _ _ from (by ((try simp only [ext_drew]); (try simp only [ext_ext]); repeat (first | exact Ext.refl _ | with_reducible apply Ext.add | with_reducible apply Ext.dr | apply Ext.alloc | apply Ext.ext | apply Ext.drew | refine Ext.trans ?_ (by assumption))))) ?_; clear hK K; (try simp only [Act.put, List.setIfInBounds_toArray, List.set_cons_zero, List.set_cons_succ])))
              refine mix_nil ?_)
            | (
              with_reducible refine wp_region_ext (by kernel_rfl) (by kernel_rfl) ?_
              repeat (first | go_big_quiet_skip | (go_big_quiet_want; go_big_quiet_op; first | go_big_quiet_on | (apply Exists.intro; refine ⟨fun _ => ?_, ?_⟩; (fail); (try rw [h1]); (try rw [h2]); (try rw [h3]); (try rw [h4]); (try rw [p1]); (try rw [p2]); (try rw [p3]); (try rw [p4]); (try rw [r1]); (try rw [r2]); (try rw [r3]); (try rw [r4]); (try rw [r5]); (try rw [r6]); (try rw [q3]); (try rw [q4]); (try rw [hp]); (try rw [hq]); go_big_quiet_on)))
              refine wpQuiet_nil ?_
              rintro _ ⟨tq, rfl⟩))
        go_loopw [3, 27] (fun s i wr => ∃ (k : Nat) (p : Int), k ≤ o.ground.length ∧ i = .int .i64 k ∧ s = .int .i64 p ∧ 0 ≤ p ∧ p ≤ 900000000 ∧ p = q + sumBy purseSum ((o.ground.zip o.air).take k) ∧ Ext (w.alloc (Obj.cells #[.int .i64 o.map.c, .int .i64 o.map.w, .slice a1 o.wk.length c1, .slice a2 o.ground.length c2, .slice a3 o.air.length c3] 80)) wr) (fun _ i _ => o.ground.length - (intOf i).toNat)
        case atStart => exact ⟨0, q, by omega, rfl, rfl, q0, by omega, by simp [sumBy], (by ((try simp only [ext_drew]); (try simp only [ext_ext]); repeat (first | exact Ext.refl _ | with_reducible apply Ext.add | with_reducible apply Ext.dr | apply Ext.alloc | apply Ext.ext | apply Ext.drew | refine Ext.trans ?_ (by assumption))))⟩
        case round =>
          obtain ⟨k2, p, hk2, rfl, rfl, p0, p1, hp, t2, rfl⟩ := hrel
          have HP := hid hp
          clear hp
          by_cases hlt2 : k2 < o.ground.length
          · have lt3 : k2 < o.air.length := by rw [HC.out.l3]; exact hlt2
            have hkm : (k2 : Int) < o.map.c := by have := HC.out.l2; omega
            obtain ⟨g, b2, o2, hgk, rfl, hb2, f2⟩ := at_Int H2.out hlt2
            obtain ⟨xs, b3, o3, xa, xc, hx3, rfl, hb3, f3, hr3⟩ := at_SS H3.out lt3
            obtain ⟨l, r, rfl, hg, hl, hr⟩ := HC.out.pb k2 g xs hgk hx3
            have hg0 := hg.1
            have hg1 := hg.2
            have hl0 := hl.1
            have hl1 := hl.2
            have hr0 := hr.1
            have hr1 := hr.2
            have HZ := hid (show (o.ground.zip o.air)[k2]? = some (g, [l, r]) from List.getElem?_zip_eq_some.2 ⟨hgk, hx3⟩)
            have HS := hid (show sumBy purseSum ((o.ground.zip o.air).take (k2 + 1)) = sumBy purseSum ((o.ground.zip o.air).take k2) + (g + l + r) from sumBy_step purseSum HZ.out)
            have hp9 : p ≤ 500000000 := by have := HC.out.psum k2; have := HP.out; omega
            have hr3' : Re w (.sl .int) [.slice xa 2 xc] (.l ([l, r].map Dat.i)) := hr3
            obtain ⟨y0, b4, o4, h0, rfl, hb4, f4⟩ := at_Int hr3' (show 0 < 2 by decide)
            obtain ⟨y1, b5, o5, h1, hab, hb5, f5⟩ := at_Int hr3' (show 1 < 2 by decide)
            simp only [Option.some.injEq, Addr.mk.injEq, and_true] at hab
            obtain ⟨rfl, rfl⟩ := hab
            simp only [List.getElem?_cons_zero, List.getElem?_cons_succ, Option.some.injEq] at h0 h1
            subst h0 h1
            rw [Nat.add_zero] at f4
            have f4' : w.cell? ⟨b4, o4 + 0, none⟩ = some (.int .i64 l) := f4
            have f3' : w.cell? ⟨b3, o3 + k2, none⟩ = some (.slice (some ⟨b4, o4, none⟩) 2 xc) := f3
            have hb2' : b2 ≤ w.heap.size := Nat.le_of_lt hb2
            have hb3' : b3 ≤ w.heap.size := Nat.le_of_lt hb3
            have hb4' : b4 ≤ w.heap.size := Nat.le_of_lt hb4
            clear hgk hx3 hr3 hr3' hg hl hr f3
            try go_wp2_with (first
                | fail
                | (
                  with_reducible refine wp_region_mix (by kernel_rfl) (by decide +kernel) ?_
                  repeat (first
                    | (refine mix_pure rfl ?_; (first | go_big_quiet_skip | (go_big_quiet_want; go_big_quiet_op; go_big_quiet_on)); refine wpQuiet_nil ?_)
                    | (refine mix_skip (by rfl) ?_; (try simp only [Act.put, List.setIfInBounds_toArray, List.set_cons_zero, List.set_cons_succ]))
                    | (refine mix_mk rfl (by rfl) (fun K hK => ?_); (first | (go_simp; first | skip)); (show K _ _); refine hK _ _ (show Ext _ _ from (by ((try simp only [ext_drew]); (try simp only [ext_ext]); repeat (first | exact Ext.refl _ | with_reducible apply Ext.add | with_reducible apply Ext.dr | apply Ext.alloc | apply Ext.ext | apply Ext.drew | refine Ext.trans ?_ (by assumption))))) ?_; clear hK K; (try simp only [Act.put, List.setIfInBounds_toArray, List.set_cons_zero, List.set_cons_succ])))
                  refine mix_nil ?_)
                | (
                  with_reducible refine wp_region_ext (by kernel_rfl) (by kernel_rfl) ?_
                  repeat (first | go_big_quiet_skip | (go_big_quiet_want; go_big_quiet_op; first | go_big_quiet_on | (apply Exists.intro; refine ⟨fun _ => ?_, ?_⟩; (fail); (try rw [h1]); (try rw [h2]); (try rw [h3]); (try rw [h4]); (try rw [p1]); (try rw [p2]); (try rw [p3]); (try rw [p4]); (try rw [r1]); (try rw [r2]); (try rw [r3]); (try rw [r4]); (try rw [r5]); (try rw [r6]); (try rw [q3]); (try rw [q4]); (try rw [hp]); (try rw [hq]); go_big_quiet_on)))
                  refine wpQuiet_nil ?_
                  rintro _ ⟨tq, rfl⟩))
            go_roundw
            case rel => exact ⟨k2 + 1, p + (g + l + r), by omega, by go_num, (by first | rfl | (congr 1; omega)), by omega, by omega, by rw [HS.out, HP.out]; omega, (by ((try simp only [ext_drew]); (try simp only [ext_ext]); repeat (first | exact Ext.refl _ | with_reducible apply Ext.add | with_reducible apply Ext.dr | apply Ext.alloc | apply Ext.ext | apply Ext.drew | refine Ext.trans ?_ (by assumption))))⟩
            case measure => simp [intOf]; omega
          · have hkm : ¬ (k2 : Int) < o.map.c := by have := HC.out.l2; omega
            have HT := hid (show p = sumBy onwCoins o.wk + sumBy purseSum (o.ground.zip o.air) by rw [HP.out, HW.out, sumBy_all _ (by rw [List.length_zip]; omega)])
            try go_wp2_with (first
                | fail
                | (
                  with_reducible refine wp_region_mix (by kernel_rfl) (by decide +kernel) ?_
                  repeat (first
                    | (refine mix_pure rfl ?_; (first | go_big_quiet_skip | (go_big_quiet_want; go_big_quiet_op; go_big_quiet_on)); refine wpQuiet_nil ?_)
                    | (refine mix_skip (by rfl) ?_; (try simp only [Act.put, List.setIfInBounds_toArray, List.set_cons_zero, List.set_cons_succ]))
                    | (refine mix_mk rfl (by rfl) (fun K hK => ?_); (first | (go_simp; first | skip)); (show K _ _); refine hK _ _ (show Ext _ _ from (by ((try simp only [ext_drew]); (try simp only [ext_ext]); repeat (first | exact Ext.refl _ | with_reducible apply Ext.add | with_reducible apply Ext.dr | apply Ext.alloc | apply Ext.ext | apply Ext.drew | refine Ext.trans ?_ (by assumption))))) ?_; clear hK K; (try simp only [Act.put, List.setIfInBounds_toArray, List.set_cons_zero, List.set_cons_succ])))
                  refine mix_nil ?_)
                | (
                  with_reducible refine wp_region_ext (by kernel_rfl) (by kernel_rfl) ?_
                  repeat (first | go_big_quiet_skip | (go_big_quiet_want; go_big_quiet_op; first | go_big_quiet_on | (apply Exists.intro; refine ⟨fun _ => ?_, ?_⟩; (fail); (try rw [h1]); (try rw [h2]); (try rw [h3]); (try rw [h4]); (try rw [p1]); (try rw [p2]); (try rw [p3]); (try rw [p4]); (try rw [r1]); (try rw [r2]); (try rw [r3]); (try rw [r4]); (try rw [r5]); (try rw [r6]); (try rw [q3]); (try rw [q4]); (try rw [hp]); (try rw [hq]); go_big_quiet_on)))
                  refine wpQuiet_nil ?_
                  rintro _ ⟨tq, rfl⟩))
            go_ret
            exact ⟨ret_int (by rw [E.out, HT.out]), (by ((try simp only [ext_drew]); (try simp only [ext_ext]); repeat (first | exact Ext.refl _ | with_reducible apply Ext.add | with_reducible apply Ext.dr | apply Ext.alloc | apply Ext.ext | apply Ext.drew | refine Ext.trans ?_ (by assumption))))⟩

set_option maxRecDepth 100000 in
set_option maxHeartbeats 4000000 in
theorem sOneCoins_c (o : One) (h : OneH) (w : World) (hx : ReO w o h) (hb : BdO o) :
    Calls Try.prog 45 #[.agg #[.int .i64 o.map.c, .int .i64 o.map.w, .slice h.a1 o.wk.length h.c1, .slice h.a2 o.ground.length h.c2, .slice h.a3 o.air.length h.c3]] w fun e w' => e = .returned (.int .i64 (oneCoins o)) ∧ Ext w w' := by
  have HX := hid hx
  have HBD := hid hb
  cases r0 : oneOk o with
  | false =>
    have E := hid (show oneCoins o = 0 by simp [oneCoins, r0])
    clear hx hb
    go_enter Try.func45, Try.ntmps45
    try go_wp2_with (first
        | (go_at_call 41; refine (sOneOk_c _ _ _ (ReO.of (Hid.out (by assumption)) (by ((try simp only [ext_drew]); (try simp only [ext_ext]); repeat (first | exact Ext.refl _ | with_reducible apply Ext.add | with_reducible apply Ext.dr | apply Ext.alloc | apply Ext.ext | apply Ext.drew | refine Ext.trans ?_ (by assumption))))) (Hid.out (by assumption))).mono ?_; rintro e w' ⟨rfl, t, rfl⟩)
        | (
          with_reducible refine wp_region_mix (by kernel_rfl) (by decide +kernel) ?_
          repeat (first
            | (refine mix_pure rfl ?_; (first | go_big_quiet_skip | (go_big_quiet_want; go_big_quiet_op; go_big_quiet_on)); refine wpQuiet_nil ?_)
            | (refine mix_skip (by rfl) ?_; (try simp only [Act.put, List.setIfInBounds_toArray, List.set_cons_zero, List.set_cons_succ]))
            | (refine mix_mk rfl (by rfl) (fun K hK => ?_); (first | (go_simp; first | (go_at_call 41; refine (sOneOk_c _ _ _ (ReO.of (Hid.out (by assumption)) (by ((try simp only [ext_drew]); (try simp only [ext_ext]); repeat (first | exact Ext.refl _ | with_reducible apply Ext.add | with_reducible apply Ext.dr | apply Ext.alloc | apply Ext.ext | apply Ext.drew | refine Ext.trans ?_ (by assumption))))) (Hid.out (by assumption))).mono ?_; rintro e w' ⟨rfl, t, rfl⟩) | skip)); (show K _ _); refine hK _ _ (show Ext _ _ from (by ((try simp only [ext_drew]); (try simp only [ext_ext]); repeat (first | exact Ext.refl _ | with_reducible apply Ext.add | with_reducible apply Ext.dr | apply Ext.alloc | apply Ext.ext | apply Ext.drew | refine Ext.trans ?_ (by assumption))))) ?_; clear hK K; (try simp only [Act.put, List.setIfInBounds_toArray, List.set_cons_zero, List.set_cons_succ])))
          refine mix_nil ?_)
        | (
          with_reducible refine wp_region_ext (by kernel_rfl) (by kernel_rfl) ?_
          repeat (first | go_big_quiet_skip | (go_big_quiet_want; go_big_quiet_op; first | go_big_quiet_on | (apply Exists.intro; refine ⟨fun _ => ?_, ?_⟩; ((first | (go_at_call 41; first | exact quiet_call (sOneOk_c _ _ _ (ReO.of (Hid.out (by assumption)) (by ((try simp only [ext_drew]); (try simp only [ext_ext]); repeat (first | exact Ext.refl _ | with_reducible apply Ext.add | with_reducible apply Ext.dr | apply Ext.alloc | apply Ext.ext | apply Ext.drew | refine Ext.trans ?_ (by assumption))))) (Hid.out (by assumption))) | exact quiet_call2 (sOneOk_c _ _ _ (ReO.of (Hid.out (by assumption)) (by ((try simp only [ext_drew]); (try simp only [ext_ext]); repeat (first | exact Ext.refl _ | with_reducible apply Ext.add | with_reducible apply Ext.dr | apply Ext.alloc | apply Ext.ext | apply Ext.drew | refine Ext.trans ?_ (by assumption))))) (Hid.out (by assumption)))))); (try rw [h1]); (try rw [h2]); (try rw [h3]); (try rw [h4]); (try rw [p1]); (try rw [p2]); (try rw [p3]); (try rw [p4]); (try rw [r1]); (try rw [r2]); (try rw [r3]); (try rw [r4]); (try rw [r5]); (try rw [r6]); (try rw [q3]); (try rw [q4]); (try rw [hp]); (try rw [hq]); go_big_quiet_on)))
          refine wpQuiet_nil ?_
          rintro _ ⟨tq, rfl⟩))
    go_ret
    exact ⟨ret_int (by rw [E.out]), (by ((try simp only [ext_drew]); (try simp only [ext_ext]); repeat (first | exact Ext.refl _ | with_reducible apply Ext.add | with_reducible apply Ext.dr | apply Ext.alloc | apply Ext.ext | apply Ext.drew | refine Ext.trans ?_ (by assumption))))⟩
  | true =>
    have E := hid (show oneCoins o = sumBy onwCoins o.wk + sumBy purseSum (o.ground.zip o.air) by simp [oneCoins, r0])
    have HC := hid (OneB.of r0)
    have H1 := hid hx.r1
    have H2 := hid hx.r2
    have H3 := hid hx.r3
    have B1 := hb.b1
    have B2 := hb.b2
    clear hx hb
    obtain ⟨a1, c1, a2, c2, a3, c3⟩ := h
    dsimp only at H1 H2 H3 ⊢
    go_enter Try.func45, Try.ntmps45
    try go_wp2_with (first
        | (go_at_call 41; (with_reducible refine (sOneOk_c o ⟨a1, c1, a2, c2, a3, c3⟩ _ (ReO.of HX.out (by ((try simp only [ext_drew]); (try simp only [ext_ext]); repeat (first | exact Ext.refl _ | with_reducible apply Ext.add | with_reducible apply Ext.dr | apply Ext.alloc | apply Ext.ext | apply Ext.drew | refine Ext.trans ?_ (by assumption))))) HBD.out).mono ?_); rintro e w' ⟨rfl, t, rfl⟩)
        | (
          with_reducible refine wp_region_mix (by kernel_rfl) (by decide +kernel) ?_
          repeat (first
            | (refine mix_pure rfl ?_; (first | go_big_quiet_skip | (go_big_quiet_want; go_big_quiet_op; go_big_quiet_on)); refine wpQuiet_nil ?_)
            | (refine mix_skip (by rfl) ?_; (try simp only [Act.put, List.setIfInBounds_toArray, List.set_cons_zero, List.set_cons_succ]))
            | (refine mix_mk rfl (by rfl) (fun K hK => ?_); (first | (go_simp; first | (go_at_call 41; (with_reducible refine (sOneOk_c o ⟨a1, c1, a2, c2, a3, c3⟩ _ (ReO.of HX.out (by ((try simp only [ext_drew]); (try simp only [ext_ext]); repeat (first | exact Ext.refl _ | with_reducible apply Ext.add | with_reducible apply Ext.dr | apply Ext.alloc | apply Ext.ext | apply Ext.drew | refine Ext.trans ?_ (by assumption))))) HBD.out).mono ?_); rintro e w' ⟨rfl, t, rfl⟩) | skip)); (show K _ _); refine hK _ _ (show Ext _ _ from (by ((try simp only [ext_drew]); (try simp only [ext_ext]); repeat (first | exact Ext.refl _ | with_reducible apply Ext.add | with_reducible apply Ext.dr | apply Ext.alloc | apply Ext.ext | apply Ext.drew | refine Ext.trans ?_ (by assumption))))) ?_; clear hK K; (try simp only [Act.put, List.setIfInBounds_toArray, List.set_cons_zero, List.set_cons_succ])))
          refine mix_nil ?_)
        | (
          with_reducible refine wp_region_ext (by kernel_rfl) (by kernel_rfl) ?_
          repeat (first | go_big_quiet_skip | (go_big_quiet_want; go_big_quiet_op; first | go_big_quiet_on | (apply Exists.intro; refine ⟨fun _ => ?_, ?_⟩; (fail); (try rw [h1]); (try rw [h2]); (try rw [h3]); (try rw [h4]); (try rw [p1]); (try rw [p2]); (try rw [p3]); (try rw [p4]); (try rw [r1]); (try rw [r2]); (try rw [r3]); (try rw [r4]); (try rw [r5]); (try rw [r6]); (try rw [q3]); (try rw [q4]); (try rw [hp]); (try rw [hq]); go_big_quiet_on)))
          refine wpQuiet_nil ?_
          rintro _ ⟨tq, rfl⟩))
    go_loopw [3, 4] (fun s i wr => ∃ (k : Nat) (q : Int), k ≤ o.wk.length ∧ i = .int .i64 k ∧ s = .int .i64 q ∧ 0 ≤ q ∧ q ≤ 900000000 ∧ q = sumBy onwCoins (o.wk.take k) ∧ Ext (w.alloc (Obj.cells #[.int .i64 o.map.c, .int .i64 o.map.w, .slice a1 o.wk.length c1, .slice a2 o.ground.length c2, .slice a3 o.air.length c3] 80)) wr) (fun _ i _ => o.wk.length - (intOf i).toNat)
    case atStart => exact ⟨0, 0, Nat.zero_le _, rfl, rfl, by omega, by omega, by simp [sumBy], (by ((try simp only [ext_drew]); (try simp only [ext_ext]); repeat (first | exact Ext.refl _ | with_reducible apply Ext.add | with_reducible apply Ext.dr | apply Ext.alloc | apply Ext.ext | apply Ext.drew | refine Ext.trans ?_ (by assumption))))⟩
    case round =>
      obtain ⟨k, q, hk, rfl, rfl, q0, q1, hq, t', rfl⟩ := hrel
      have HQ := hid hq
      clear hq
      by_cases hlt : k < o.wk.length
      · obtain ⟨x, b, o1, hxk, rfl, hb, f0, f1, f2, f3, f4, f5⟩ := at_Onw H1.out hlt
        have hb1 : b ≤ w.heap.size := Nat.le_of_lt hb
        have hxc := HC.out.wb x (List.mem_of_getElem? hxk)
        have hc0 : 0 ≤ x.wk.coins := hxc.1
        have hc1 : x.wk.coins ≤ 99 := hxc.2
        have hbn := HC.out.wsum HBD.out k
        have HS := hid (show sumBy onwCoins (o.wk.take (k + 1)) = sumBy onwCoins (o.wk.take k) + x.wk.coins from sumBy_step onwCoins hxk)
        have hq2 : q + x.wk.coins ≤ 900000000 := by have := HQ.out; omega
        clear hxk hxc hbn
        try go_wp2_with (first
            | fail
            | (
              with_reducible refine wp_region_mix (by kernel_rfl) (by decide +kernel) ?_
              repeat (first
                | (refine mix_pure rfl ?_; (first | go_big_quiet_skip | (go_big_quiet_want; go_big_quiet_op; go_big_quiet_on)); refine wpQuiet_nil ?_)
                | (refine mix_skip (by rfl) ?_; (try simp only [Act.put, List.setIfInBounds_toArray, List.set_cons_zero, List.set_cons_succ]))
                | (refine mix_mk rfl (by rfl) (fun K hK => ?_); (first | (go_simp; first | skip)); (show K _ _); refine hK _ _ (show Ext _ _ from (by ((try simp only [ext_drew]); (try simp only [ext_ext]); repeat (first | exact Ext.refl _ | with_reducible apply Ext.add | with_reducible apply Ext.dr | apply Ext.alloc | apply Ext.ext | apply Ext.drew | refine Ext.trans ?_ (by assumption))))) ?_; clear hK K; (try simp only [Act.put, List.setIfInBounds_toArray, List.set_cons_zero, List.set_cons_succ])))
              refine mix_nil ?_)
            | (
              with_reducible refine wp_region_ext (by kernel_rfl) (by kernel_rfl) ?_
              repeat (first | go_big_quiet_skip | (go_big_quiet_want; go_big_quiet_op; first | go_big_quiet_on | (apply Exists.intro; refine ⟨fun _ => ?_, ?_⟩; (fail); (try rw [h1]); (try rw [h2]); (try rw [h3]); (try rw [h4]); (try rw [p1]); (try rw [p2]); (try rw [p3]); (try rw [p4]); (try rw [r1]); (try rw [r2]); (try rw [r3]); (try rw [r4]); (try rw [r5]); (try rw [r6]); (try rw [q3]); (try rw [q4]); (try rw [hp]); (try rw [hq]); go_big_quiet_on)))
              refine wpQuiet_nil ?_
              rintro _ ⟨tq, rfl⟩))
        go_roundw
        case rel => exact ⟨k + 1, q + x.wk.coins, by omega, by go_num, rfl, by omega, hq2, by rw [HS.out, HQ.out], (by ((try simp only [ext_drew]); (try simp only [ext_ext]); repeat (first | exact Ext.refl _ | with_reducible apply Ext.add | with_reducible apply Ext.dr | apply Ext.alloc | apply Ext.ext | apply Ext.drew | refine Ext.trans ?_ (by assumption))))⟩
        case measure => simp [intOf]; omega
      · have HW := hid (show q = sumBy onwCoins o.wk by rw [HQ.out, sumBy_all _ (by omega)])
        have hq9 : q ≤ 400000000 := by have := HC.out.wsum HBD.out k; have := HQ.out; omega
        try go_wp2_with (first
            | fail
            | (
              with_reducible refine wp_region_mix (by kernel_rfl) (by decide +kernel) ?_
              repeat (first
                | (refine mix_pure rfl ?_; (first | go_big_quiet_skip | (go_big_quiet_want; go_big_quiet_op; go_big_quiet_on)); refine wpQuiet_nil ?_)
                | (refine mix_skip (by rfl) ?_; (try simp only [Act.put, List.setIfInBounds_toArray, List.set_cons_zero, List.set_cons_succ]))
                | (refine mix_mk rfl (by rfl) (fun K hK => ?_); (first | (go_simp; first | skip)); (show K _ _); refine hK _ _ (show Ext _ _ from (by ((try simp only [ext_drew]); (try simp only [ext_ext]); repeat (first | exact Ext.refl _ | with_reducible apply Ext.add | with_reducible apply Ext.dr | apply Ext.alloc | apply Ext.ext | apply Ext.drew | refine Ext.trans ?_ (by assumption))))) ?_; clear hK K; (try simp only [Act.put, List.setIfInBounds_toArray, List.set_cons_zero, List.set_cons_succ])))
              refine mix_nil ?_)
            | (
              with_reducible refine wp_region_ext (by kernel_rfl) (by kernel_rfl) ?_
              repeat (first | go_big_quiet_skip | (go_big_quiet_want; go_big_quiet_op; first | go_big_quiet_on | (apply Exists.intro; refine ⟨fun _ => ?_, ?_⟩; (fail); (try rw [h1]); (try rw [h2]); (try rw [h3]); (try rw [h4]); (try rw [p1]); (try rw [p2]); (try rw [p3]); (try rw [p4]); (try rw [r1]); (try rw [r2]); (try rw [r3]); (try rw [r4]); (try rw [r5]); (try rw [r6]); (try rw [q3]); (try rw [q4]); (try rw [hp]); (try rw [hq]); go_big_quiet_on)))
              refine wpQuiet_nil ?_
              rintro _ ⟨tq, rfl⟩))
        go_loopw [3, 5] (fun s i wr => ∃ (k : Nat) (p : Int), k ≤ o.ground.length ∧ i = .int .i64 k ∧ s = .int .i64 p ∧ 0 ≤ p ∧ p ≤ 900000000 ∧ p = q + sumBy purseSum ((o.ground.zip o.air).take k) ∧ Ext (w.alloc (Obj.cells #[.int .i64 o.map.c, .int .i64 o.map.w, .slice a1 o.wk.length c1, .slice a2 o.ground.length c2, .slice a3 o.air.length c3] 80)) wr) (fun _ i _ => o.ground.length - (intOf i).toNat)
        case atStart => exact ⟨0, q, by omega, rfl, rfl, q0, by omega, by simp [sumBy], (by ((try simp only [ext_drew]); (try simp only [ext_ext]); repeat (first | exact Ext.refl _ | with_reducible apply Ext.add | with_reducible apply Ext.dr | apply Ext.alloc | apply Ext.ext | apply Ext.drew | refine Ext.trans ?_ (by assumption))))⟩
        case round =>
          obtain ⟨k2, p, hk2, rfl, rfl, p0, p1, hp, t2, rfl⟩ := hrel
          have HP := hid hp
          clear hp
          by_cases hlt2 : k2 < o.ground.length
          · have lt3 : k2 < o.air.length := by rw [HC.out.l3]; exact hlt2
            have hkm : (k2 : Int) < o.map.c := by have := HC.out.l2; omega
            obtain ⟨g, b2, o2, hgk, rfl, hb2, f2⟩ := at_Int H2.out hlt2
            obtain ⟨xs, b3, o3, xa, xc, hx3, rfl, hb3, f3, hr3⟩ := at_SS H3.out lt3
            obtain ⟨l, r, rfl, hg, hl, hr⟩ := HC.out.pb k2 g xs hgk hx3
            have hg0 := hg.1
            have hg1 := hg.2
            have hl0 := hl.1
            have hl1 := hl.2
            have hr0 := hr.1
            have hr1 := hr.2
            have HZ := hid (show (o.ground.zip o.air)[k2]? = some (g, [l, r]) from List.getElem?_zip_eq_some.2 ⟨hgk, hx3⟩)
            have HS := hid (show sumBy purseSum ((o.ground.zip o.air).take (k2 + 1)) = sumBy purseSum ((o.ground.zip o.air).take k2) + (g + l + r) from sumBy_step purseSum HZ.out)
            have hp9 : p ≤ 500000000 := by have := HC.out.psum k2; have := HP.out; omega
            have hr3' : Re w (.sl .int) [.slice xa 2 xc] (.l ([l, r].map Dat.i)) := hr3
            obtain ⟨y0, b4, o4, h0, rfl, hb4, f4⟩ := at_Int hr3' (show 0 < 2 by decide)
            obtain ⟨y1, b5, o5, h1, hab, hb5, f5⟩ := at_Int hr3' (show 1 < 2 by decide)
            simp only [Option.some.injEq, Addr.mk.injEq, and_true] at hab
            obtain ⟨rfl, rfl⟩ := hab
            simp only [List.getElem?_cons_zero, List.getElem?_cons_succ, Option.some.injEq] at h0 h1
            subst h0 h1
            rw [Nat.add_zero] at f4
            have f4' : w.cell? ⟨b4, o4 + 0, none⟩ = some (.int .i64 l) := f4
            have f3' : w.cell? ⟨b3, o3 + k2, none⟩ = some (.slice (some ⟨b4, o4, none⟩) 2 xc) := f3
            have hb2' : b2 ≤ w.heap.size := Nat.le_of_lt hb2
            have hb3' : b3 ≤ w.heap.size := Nat.le_of_lt hb3
            have hb4' : b4 ≤ w.heap.size := Nat.le_of_lt hb4
            clear hgk hx3 hr3 hr3' hg hl hr f3
            try go_wp2_with (first
                | fail
                | (
                  with_reducible refine wp_region_mix (by kernel_rfl) (by decide +kernel) ?_
                  repeat (first
                    | (refine mix_pure rfl ?_; (first | go_big_quiet_skip | (go_big_quiet_want; go_big_quiet_op; go_big_quiet_on)); refine wpQuiet_nil ?_)
                    | (refine mix_skip (by rfl) ?_; (try simp only [Act.put, List.setIfInBounds_toArray, List.set_cons_zero, List.set_cons_succ]))
                    | (refine mix_mk rfl (by rfl) (fun K hK => ?_); (first | (go_simp; first | skip)); (show K _ _); refine hK _ _ (show Ext _ _ from (by ((try simp only [ext_drew]); (try simp only [ext_ext]); repeat (first | exact Ext.refl _ | with_reducible apply Ext.add | with_reducible apply Ext.dr | apply Ext.alloc | apply Ext.ext | apply Ext.drew | refine Ext.trans ?_ (by assumption))))) ?_; clear hK K; (try simp only [Act.put, List.setIfInBounds_toArray, List.set_cons_zero, List.set_cons_succ])))
                  refine mix_nil ?_)
                | (
                  with_reducible refine wp_region_ext (by kernel_rfl) (by kernel_rfl) ?_
                  repeat (first | go_big_quiet_skip | (go_big_quiet_want; go_big_quiet_op; first | go_big_quiet_on | (apply Exists.intro; refine ⟨fun _ => ?_, ?_⟩; (fail); (try rw [h1]); (try rw [h2]); (try rw [h3]); (try rw [h4]); (try rw [p1]); (try rw [p2]); (try rw [p3]); (try rw [p4]); (try rw [r1]); (try rw [r2]); (try rw [r3]); (try rw [r4]); (try rw [r5]); (try rw [r6]); (try rw [q3]); (try rw [q4]); (try rw [hp]); (try rw [hq]); go_big_quiet_on)))
                  refine wpQuiet_nil ?_
                  rintro _ ⟨tq, rfl⟩))
            go_roundw
            case rel => exact ⟨k2 + 1, p + (g + l + r), by omega, by go_num, (by first | rfl | (congr 1; omega)), by omega, by omega, by rw [HS.out, HP.out]; omega, (by ((try simp only [ext_drew]); (try simp only [ext_ext]); repeat (first | exact Ext.refl _ | with_reducible apply Ext.add | with_reducible apply Ext.dr | apply Ext.alloc | apply Ext.ext | apply Ext.drew | refine Ext.trans ?_ (by assumption))))⟩
            case measure => simp [intOf]; omega
          · have hkm : ¬ (k2 : Int) < o.map.c := by have := HC.out.l2; omega
            have HT := hid (show p = sumBy onwCoins o.wk + sumBy purseSum (o.ground.zip o.air) by rw [HP.out, HW.out, sumBy_all _ (by rw [List.length_zip]; omega)])
            try go_wp2_with (first
                | fail
                | (
                  with_reducible refine wp_region_mix (by kernel_rfl) (by decide +kernel) ?_
                  repeat (first
                    | (refine mix_pure rfl ?_; (first | go_big_quiet_skip | (go_big_quiet_want; go_big_quiet_op; go_big_quiet_on)); refine wpQuiet_nil ?_)
                    | (refine mix_skip (by rfl) ?_; (try simp only [Act.put, List.setIfInBounds_toArray, List.set_cons_zero, List.set_cons_succ]))
                    | (refine mix_mk rfl (by rfl) (fun K hK => ?_); (first | (go_simp; first | skip)); (show K _ _); refine hK _ _ (show Ext _ _ from (by ((try simp only [ext_drew]); (try simp only [ext_ext]); repeat (first | exact Ext.refl _ | with_reducible apply Ext.add | with_reducible apply Ext.dr | apply Ext.alloc | apply Ext.ext | apply Ext.drew | refine Ext.trans ?_ (by assumption))))) ?_; clear hK K; (try simp only [Act.put, List.setIfInBounds_toArray, List.set_cons_zero, List.set_cons_succ])))
                  refine mix_nil ?_)
                | (
                  with_reducible refine wp_region_ext (by kernel_rfl) (by kernel_rfl) ?_
                  repeat (first | go_big_quiet_skip | (go_big_quiet_want; go_big_quiet_op; first | go_big_quiet_on | (apply Exists.intro; refine ⟨fun _ => ?_, ?_⟩; (fail); (try rw [h1]); (try rw [h2]); (try rw [h3]); (try rw [h4]); (try rw [p1]); (try rw [p2]); (try rw [p3]); (try rw [p4]); (try rw [r1]); (try rw [r2]); (try rw [r3]); (try rw [r4]); (try rw [r5]); (try rw [r6]); (try rw [q3]); (try rw [q4]); (try rw [hp]); (try rw [hq]); go_big_quiet_on)))
                  refine wpQuiet_nil ?_
                  rintro _ ⟨tq, rfl⟩))
            go_ret
            exact ⟨ret_int (by rw [E.out, HT.out]), (by ((try simp only [ext_drew]); (try simp only [ext_ext]); repeat (first | exact Ext.refl _ | with_reducible apply Ext.add | with_reducible apply Ext.dr | apply Ext.alloc | apply Ext.ext | apply Ext.drew | refine Ext.trans ?_ (by assumption))))⟩
end Go.Proofs.Yteepfcdjaakdfaa
