/- FnExactOneDown: the program's function returns what the reference's returns; for all arguments. -/
import Derived.Test.YtcfbfpgcfnpdgaaOneDn
import Derived.Test.YtcfbfpgcfnpdgaaLOneB
namespace Go.Proofs.Ytcfbfpgcfnpdgaa
open Go.ChangeShapes Go.WideShapes Go.ChangeAt Go.RowKit
set_option linter.unusedSimpArgs false
set_option linter.unusedVariables false

theorem odV_air {o : One} {cell side n : Int} : ((downV o cell side n).air.map List.length) = o.air.map List.length := by
  apply List.ext_getElem?
  intro i
  unfold downV
  dsimp only
  rw [List.getElem?_map, List.getElem?_map, List.getElem?_set]
  split
  · rename_i e
    subst e
    split
    · rename_i h
      rw [List.getElem?_eq_getElem h]
      simp [airR, h]
    · rename_i h
      rw [List.getElem?_eq_none (by omega)]
  · rfl
theorem odV_bd {o : One} {cell side n : Int} (h : BdO o) : BdO (odV o cell side n) := by
  unfold odV
  split
  · split
    · refine ⟨h.b1, by unfold downV; dsimp only; rw [List.length_set]; exact h.b2, by unfold downV; dsimp only; rw [List.length_set]; exact h.b3, fun xs hx => ?_⟩
      have h1 : xs.length ∈ (downV o cell side n).air.map List.length := List.mem_map.2 ⟨xs, hx, rfl⟩
      rw [odV_air] at h1
      obtain ⟨ys, hy, e⟩ := List.mem_map.1 h1
      rw [← e]; exact h.ba ys hy
    · exact h
  · exact bdO_zero
theorem odV_sum {o : One} {cell side n : Int} (h : (o.air.map List.length).sum ≤ 4194304) : ((odV o cell side n).air.map List.length).sum ≤ 4194304 := by
  unfold odV
  split
  · split
    · rw [odV_air]; exact h
    · exact h
  · simp [oneZ]
set_option maxRecDepth 100000 in
set_option maxHeartbeats 8000000 in
theorem fnExactOneDown_walk (W : World) (o : One) (k0 : OneH) (hx : ReO W o k0) (cell : Int) (side : Int) (n : Int) :
    Calls Try.prog 5 #[.agg #[.int .i64 o.map.c, .int .i64 o.map.w, .slice k0.a1 o.wk.length k0.c1, .slice k0.a2 o.ground.length k0.c2, .slice k0.a3 o.air.length k0.c3], .int .i64 cell, .int .i64 side, .int .i64 n] W fun e W' => e = .returned (.bool true) ∧ Below W.heap.size W W' := by
  have HX := hid hx
  clear hx
  obtain ⟨q, hq⟩ : ∃ q, szRun 1048576 (oneLens o) = q := ⟨_, rfl⟩
  have hb := szRun_le (oneLens o) 1048576 (by omega)
  rw [hq] at hb
  have hb1 := hb.1
  have hb2 := hb.2
  have HQ := hid hq
  clear hb hq
  by_cases t2 : q < 0
  · go_enter Try.func5, Try.ntmps5
    try go_wp2_with (first
        | (go_at_call 15; refine (szOne_c _ _ _ _ _ (ReO.of (Hid.out (by assumption)) (by ((try simp only [ext_drew]); (try simp only [ext_ext]); repeat (first | exact Ext.refl _ | with_reducible apply Ext.add | with_reducible apply Ext.dr | apply Ext.alloc | apply Ext.ext | apply Ext.drew | refine Ext.trans ?_ (by assumption))))) (Hid.out (by assumption)) (by omega) (by omega)).mono ?_; rintro e w' ⟨rfl, t, rfl⟩)
        | (
          with_reducible refine wp_region_mix (by kernel_rfl) (by decide +kernel) ?_
          repeat (first
            | (refine mix_pure rfl ?_; (first | go_big_quiet_skip | (go_big_quiet_want; go_big_quiet_op; go_big_quiet_on)); refine wpQuiet_nil ?_)
            | (refine mix_skip (by rfl) ?_; (try simp only [Act.put, List.setIfInBounds_toArray, List.set_cons_zero, List.set_cons_succ]))
            | (refine mix_mk rfl (by rfl) (fun K hK => ?_); (first | (go_simp; first | (go_at_call 15; refine (szOne_c _ _ _ _ _ (ReO.of (Hid.out (by assumption)) (by ((try simp only [ext_drew]); (try simp only [ext_ext]); repeat (first | exact Ext.refl _ | with_reducible apply Ext.add | with_reducible apply Ext.dr | apply Ext.alloc | apply Ext.ext | apply Ext.drew | refine Ext.trans ?_ (by assumption))))) (Hid.out (by assumption)) (by omega) (by omega)).mono ?_; rintro e w' ⟨rfl, t, rfl⟩) | skip)); (show K _ _); refine hK _ _ (show Ext _ _ from (by ((try simp only [ext_drew]); (try simp only [ext_ext]); repeat (first | exact Ext.refl _ | with_reducible apply Ext.add | with_reducible apply Ext.dr | apply Ext.alloc | apply Ext.ext | apply Ext.drew | refine Ext.trans ?_ (by assumption))))) ?_; clear hK K; (try simp only [Act.put, List.setIfInBounds_toArray, List.set_cons_zero, List.set_cons_succ])))
          refine mix_nil ?_)
        | (
          with_reducible refine wp_region_ext (by kernel_rfl) (by kernel_rfl) ?_
          repeat (first | go_big_quiet_skip | (go_big_quiet_want; go_big_quiet_op; first | go_big_quiet_on | (apply Exists.intro; refine ⟨fun _ => ?_, ?_⟩; ((first | (go_at_call 15; first | exact quiet_call (szOne_c _ _ _ _ _ (ReO.of (Hid.out (by assumption)) (by ((try simp only [ext_drew]); (try simp only [ext_ext]); repeat (first | exact Ext.refl _ | with_reducible apply Ext.add | with_reducible apply Ext.dr | apply Ext.alloc | apply Ext.ext | apply Ext.drew | refine Ext.trans ?_ (by assumption))))) (Hid.out (by assumption)) (by omega) (by omega)) | exact quiet_call2 (szOne_c _ _ _ _ _ (ReO.of (Hid.out (by assumption)) (by ((try simp only [ext_drew]); (try simp only [ext_ext]); repeat (first | exact Ext.refl _ | with_reducible apply Ext.add | with_reducible apply Ext.dr | apply Ext.alloc | apply Ext.ext | apply Ext.drew | refine Ext.trans ?_ (by assumption))))) (Hid.out (by assumption)) (by omega) (by omega))))); (try rw [h1]); (try rw [h2]); (try rw [h3]); (try rw [h4]); (try rw [p1]); (try rw [p2]); (try rw [p3]); (try rw [p4]); (try rw [r1]); (try rw [r2]); (try rw [r3]); (try rw [r4]); (try rw [r5]); (try rw [r6]); (try rw [q3]); (try rw [q4]); (try rw [hp]); (try rw [hq]); go_big_quiet_on)))
          refine wpQuiet_nil ?_
          rintro _ ⟨tq, rfl⟩))
    go_ret
    exact ⟨rfl, Ext.below (by ((try simp only [ext_drew]); (try simp only [ext_ext]); repeat (first | exact Ext.refl _ | with_reducible apply Ext.add | with_reducible apply Ext.dr | apply Ext.alloc | apply Ext.ext | apply Ext.drew | refine Ext.trans ?_ (by assumption))))⟩
  · have HBo := hid (BdO.mk' (o := o) (fun n hn => szRun_mem (oneLens o) 1048576 (by omega) (by rw [HQ.out]; omega) n hn))
    have hso := one_sum (o := o) (by rw [HQ.out]; omega)
    obtain ⟨v, hv⟩ : ∃ v, odV o cell side n = v := ⟨_, rfl⟩
    have HV := hid hv
    have HBv := hid (show BdO v from hv ▸ odV_bd HBo.out)
    have hsv : (v.air.map List.length).sum ≤ 4194304 := hv ▸ odV_sum hso
    have hvb := HBv.out.b1
    have hvg := HBv.out.b2
    have hob := HBo.out.b1
    have hog := HBo.out.b2
    obtain ⟨So, hSo⟩ : ∃ S, ((1 * (o.air.map List.length).sum : Nat) : Int) = S := ⟨_, rfl⟩
    obtain ⟨Sv, hSv⟩ : ∃ S, ((1 * (v.air.map List.length).sum : Nat) : Int) = S := ⟨_, rfl⟩
    have so0 : 0 ≤ So := by omega
    have sv0 : 0 ≤ Sv := by omega
    have so1 : So ≤ 4194304 := by omega
    have sv1 : Sv ≤ 4194304 := by omega
    have HSO := hid hSo
    have HSV := hid hSv
    have HLO := hid hso
    have HLV := hid hsv
    clear hv hSo hSv hso hsv
    go_enter Try.func5, Try.ntmps5
    try go_wp2_with (first
        | (go_at_call 15; refine (szOne_c _ _ _ _ _ (ReO.of (Hid.out (by assumption)) (by ((try simp only [ext_drew]); (try simp only [ext_ext]); repeat (first | exact Ext.refl _ | with_reducible apply Ext.add | with_reducible apply Ext.dr | apply Ext.alloc | apply Ext.ext | apply Ext.drew | refine Ext.trans ?_ (by assumption))))) (Hid.out (by assumption)) (by omega) (by omega)).mono ?_; rintro e w' ⟨rfl, t, rfl⟩) | (go_at_call 17; refine (toOne_c _ _ _ (ReO.of (Hid.out (by assumption)) (by ((try simp only [ext_drew]); (try simp only [ext_ext]); repeat (first | exact Ext.refl _ | with_reducible apply Ext.add | with_reducible apply Ext.dr | apply Ext.alloc | apply Ext.ext | apply Ext.drew | refine Ext.trans ?_ (by assumption))))) (Hid.out (by assumption))).mono ?_; rintro e w' ⟨h, rfl, ⟨t, rfl⟩, ho⟩; have hR := hid ho.one'; have hO := hid ho; clear ho)
        | (
          with_reducible refine wp_region_mix (by kernel_rfl) (by decide +kernel) ?_
          repeat (first
            | (refine mix_pure rfl ?_; (first | go_big_quiet_skip | (go_big_quiet_want; go_big_quiet_op; go_big_quiet_on)); refine wpQuiet_nil ?_)
            | (refine mix_skip (by rfl) ?_; (try simp only [Act.put, List.setIfInBounds_toArray, List.set_cons_zero, List.set_cons_succ]))
            | (refine mix_mk rfl (by rfl) (fun K hK => ?_); (first | (go_simp; first | (go_at_call 15; refine (szOne_c _ _ _ _ _ (ReO.of (Hid.out (by assumption)) (by ((try simp only [ext_drew]); (try simp only [ext_ext]); repeat (first | exact Ext.refl _ | with_reducible apply Ext.add | with_reducible apply Ext.dr | apply Ext.alloc | apply Ext.ext | apply Ext.drew | refine Ext.trans ?_ (by assumption))))) (Hid.out (by assumption)) (by omega) (by omega)).mono ?_; rintro e w' ⟨rfl, t, rfl⟩) | (go_at_call 17; refine (toOne_c _ _ _ (ReO.of (Hid.out (by assumption)) (by ((try simp only [ext_drew]); (try simp only [ext_ext]); repeat (first | exact Ext.refl _ | with_reducible apply Ext.add | with_reducible apply Ext.dr | apply Ext.alloc | apply Ext.ext | apply Ext.drew | refine Ext.trans ?_ (by assumption))))) (Hid.out (by assumption))).mono ?_; rintro e w' ⟨h, rfl, ⟨t, rfl⟩, ho⟩; have hR := hid ho.one'; have hO := hid ho; clear ho) | skip)); (show K _ _); refine hK _ _ (show Ext _ _ from (by ((try simp only [ext_drew]); (try simp only [ext_ext]); repeat (first | exact Ext.refl _ | with_reducible apply Ext.add | with_reducible apply Ext.dr | apply Ext.alloc | apply Ext.ext | apply Ext.drew | refine Ext.trans ?_ (by assumption))))) ?_; clear hK K; (try simp only [Act.put, List.setIfInBounds_toArray, List.set_cons_zero, List.set_cons_succ])))
          refine mix_nil ?_)
        | (
          with_reducible refine wp_region_ext (by kernel_rfl) (by kernel_rfl) ?_
          repeat (first | go_big_quiet_skip | (go_big_quiet_want; go_big_quiet_op; first | go_big_quiet_on | (apply Exists.intro; refine ⟨fun _ => ?_, ?_⟩; ((first | (go_at_call 15; first | exact quiet_call (szOne_c _ _ _ _ _ (ReO.of (Hid.out (by assumption)) (by ((try simp only [ext_drew]); (try simp only [ext_ext]); repeat (first | exact Ext.refl _ | with_reducible apply Ext.add | with_reducible apply Ext.dr | apply Ext.alloc | apply Ext.ext | apply Ext.drew | refine Ext.trans ?_ (by assumption))))) (Hid.out (by assumption)) (by omega) (by omega)) | exact quiet_call2 (szOne_c _ _ _ _ _ (ReO.of (Hid.out (by assumption)) (by ((try simp only [ext_drew]); (try simp only [ext_ext]); repeat (first | exact Ext.refl _ | with_reducible apply Ext.add | with_reducible apply Ext.dr | apply Ext.alloc | apply Ext.ext | apply Ext.drew | refine Ext.trans ?_ (by assumption))))) (Hid.out (by assumption)) (by omega) (by omega))) | (go_at_call 17; first | exact quiet_call (toOne_c _ _ _ (ReO.of (Hid.out (by assumption)) (by ((try simp only [ext_drew]); (try simp only [ext_ext]); repeat (first | exact Ext.refl _ | with_reducible apply Ext.add | with_reducible apply Ext.dr | apply Ext.alloc | apply Ext.ext | apply Ext.drew | refine Ext.trans ?_ (by assumption))))) (Hid.out (by assumption))) | exact quiet_call2 (toOne_c _ _ _ (ReO.of (Hid.out (by assumption)) (by ((try simp only [ext_drew]); (try simp only [ext_ext]); repeat (first | exact Ext.refl _ | with_reducible apply Ext.add | with_reducible apply Ext.dr | apply Ext.alloc | apply Ext.ext | apply Ext.drew | refine Ext.trans ?_ (by assumption))))) (Hid.out (by assumption)))))); (try rw [h1]); (try rw [h2]); (try rw [h3]); (try rw [h4]); (try rw [p1]); (try rw [p2]); (try rw [p3]); (try rw [p4]); (try rw [r1]); (try rw [r2]); (try rw [r3]); (try rw [r4]); (try rw [r5]); (try rw [r6]); (try rw [q3]); (try rw [q4]); (try rw [hp]); (try rw [hq]); go_big_quiet_on)))
          refine wpQuiet_nil ?_
          rintro _ ⟨tq, rfl⟩))
    refine calls_gen fun Y1 hY1 => ?_
    have EY1 : Ext W Y1 := by rw [hY1]; ((try simp only [ext_drew]); (try simp only [ext_ext]); repeat (first | exact Ext.refl _ | with_reducible apply Ext.add | with_reducible apply Ext.dr | apply Ext.alloc | apply Ext.ext | apply Ext.drew | refine Ext.trans ?_ (by assumption)))
    have lM1 : W.heap.size < Y1.heap.size := by rw [hY1]; ((try simp [go_sem]) <;> (try simp [Xt.add]) <;> omega)
    have HR1 := hid (show ReO Y1 o _ from by rw [hY1]; exact ReO.of hR.out (by ((try simp only [ext_drew]); (try simp only [ext_ext]); repeat (first | exact Ext.refl _ | with_reducible apply Ext.add | with_reducible apply Ext.dr | apply Ext.alloc | apply Ext.ext | apply Ext.drew | refine Ext.trans ?_ (by assumption)))))
    have cm0 : Y1.cell? ⟨W.heap.size, 0, none⟩ = some (.int .i64 o.map.c) := by rw [hY1]; simp [go_sem]
    have cm1 : Y1.cell? ⟨W.heap.size, 1, none⟩ = some (.int .i64 o.map.w) := by rw [hY1]; simp [go_sem]
    have cm2 : Y1.cell? ⟨W.heap.size, 2, none⟩ = some (.slice k0.a1 o.wk.length k0.c1) := by rw [hY1]; simp [go_sem]
    have cm3 : Y1.cell? ⟨W.heap.size, 3, none⟩ = some (.slice k0.a2 o.ground.length k0.c2) := by rw [hY1]; simp [go_sem]
    have cm4 : Y1.cell? ⟨W.heap.size, 4, none⟩ = some (.slice k0.a3 o.air.length k0.c3) := by rw [hY1]; simp [go_sem]
    clear hY1 hO hR
    have hcs := sOneDown_c o _ cell side n Y1 HR1.out HBo.out
    rw [HV.out] at hcs
    refine hcs.mono ?_
    clear hcs
    rintro e S1 ⟨sh, rfl, hES, hos⟩
    have lM2 : W.heap.size < S1.heap.size := Nat.lt_of_lt_of_le lM1 hES.size
    have cs0 : S1.cell? ⟨W.heap.size, 0, none⟩ = some (.int .i64 o.map.c) := (hES.cell lM1 0).trans cm0
    have cs1 : S1.cell? ⟨W.heap.size, 1, none⟩ = some (.int .i64 o.map.w) := (hES.cell lM1 1).trans cm1
    have cs2 : S1.cell? ⟨W.heap.size, 2, none⟩ = some (.slice k0.a1 o.wk.length k0.c1) := (hES.cell lM1 2).trans cm2
    have cs3 : S1.cell? ⟨W.heap.size, 3, none⟩ = some (.slice k0.a2 o.ground.length k0.c2) := (hES.cell lM1 3).trans cm3
    have cs4 : S1.cell? ⟨W.heap.size, 4, none⟩ = some (.slice k0.a3 o.air.length k0.c3) := (hES.cell lM1 4).trans cm4
    have ES1 : Ext W S1 := EY1.trans hES
    have HOS := hid (hos.mono (lo' := W.heap.size) EY1.size (Nat.le_refl _) (Nat.le_refl _))
    clear hos hES cm0 cm1 cm2 cm3 cm4 HR1 EY1
    try go_wp2_with (first
        | (go_at_call 17; refine (toOne_c _ _ _ (ReO.of (Hid.out (by assumption)) (by ((try simp only [ext_drew]); (try simp only [ext_ext]); repeat (first | exact Ext.refl _ | with_reducible apply Ext.add | with_reducible apply Ext.dr | apply Ext.alloc | apply Ext.ext | apply Ext.drew | refine Ext.trans ?_ (by assumption))))) (Hid.out (by assumption))).mono ?_; rintro e w' ⟨h, rfl, ⟨t, rfl⟩, ho⟩; have hR := hid ho.one'; have hO := hid ho; clear ho)
        | (
          with_reducible refine wp_region_mix (by kernel_rfl) (by decide +kernel) ?_
          repeat (first
            | (refine mix_pure rfl ?_; (first | go_big_quiet_skip | (go_big_quiet_want; go_big_quiet_op; go_big_quiet_on)); refine wpQuiet_nil ?_)
            | (refine mix_skip (by rfl) ?_; (try simp only [Act.put, List.setIfInBounds_toArray, List.set_cons_zero, List.set_cons_succ]))
            | (refine mix_mk rfl (by rfl) (fun K hK => ?_); (first | (go_simp; first | (go_at_call 17; refine (toOne_c _ _ _ (ReO.of (Hid.out (by assumption)) (by ((try simp only [ext_drew]); (try simp only [ext_ext]); repeat (first | exact Ext.refl _ | with_reducible apply Ext.add | with_reducible apply Ext.dr | apply Ext.alloc | apply Ext.ext | apply Ext.drew | refine Ext.trans ?_ (by assumption))))) (Hid.out (by assumption))).mono ?_; rintro e w' ⟨h, rfl, ⟨t, rfl⟩, ho⟩; have hR := hid ho.one'; have hO := hid ho; clear ho) | skip)); (show K _ _); refine hK _ _ (show Ext _ _ from (by ((try simp only [ext_drew]); (try simp only [ext_ext]); repeat (first | exact Ext.refl _ | with_reducible apply Ext.add | with_reducible apply Ext.dr | apply Ext.alloc | apply Ext.ext | apply Ext.drew | refine Ext.trans ?_ (by assumption))))) ?_; clear hK K; (try simp only [Act.put, List.setIfInBounds_toArray, List.set_cons_zero, List.set_cons_succ])))
          refine mix_nil ?_)
        | (
          with_reducible refine wp_region_ext (by kernel_rfl) (by kernel_rfl) ?_
          repeat (first | go_big_quiet_skip | (go_big_quiet_want; go_big_quiet_op; first | go_big_quiet_on | (apply Exists.intro; refine ⟨fun _ => ?_, ?_⟩; ((first | (go_at_call 17; first | exact quiet_call (toOne_c _ _ _ (ReO.of (Hid.out (by assumption)) (by ((try simp only [ext_drew]); (try simp only [ext_ext]); repeat (first | exact Ext.refl _ | with_reducible apply Ext.add | with_reducible apply Ext.dr | apply Ext.alloc | apply Ext.ext | apply Ext.drew | refine Ext.trans ?_ (by assumption))))) (Hid.out (by assumption))) | exact quiet_call2 (toOne_c _ _ _ (ReO.of (Hid.out (by assumption)) (by ((try simp only [ext_drew]); (try simp only [ext_ext]); repeat (first | exact Ext.refl _ | with_reducible apply Ext.add | with_reducible apply Ext.dr | apply Ext.alloc | apply Ext.ext | apply Ext.drew | refine Ext.trans ?_ (by assumption))))) (Hid.out (by assumption)))))); (try rw [h1]); (try rw [h2]); (try rw [h3]); (try rw [h4]); (try rw [p1]); (try rw [p2]); (try rw [p3]); (try rw [p4]); (try rw [r1]); (try rw [r2]); (try rw [r3]); (try rw [r4]); (try rw [r5]); (try rw [r6]); (try rw [q3]); (try rw [q4]); (try rw [hp]); (try rw [hq]); go_big_quiet_on)))
          refine wpQuiet_nil ?_
          rintro _ ⟨tq, rfl⟩))
    refine calls_gen fun Y2 hY2 => ?_
    obtain ⟨xh, rfl⟩ : ∃ z, z = h := ⟨_, rfl⟩
    generalize hX1 : S1.heap.size + 1 + t.bs.size = X1
    have EY2 : Ext S1 Y2 := by rw [hY2]; ((try simp only [ext_drew]); (try simp only [ext_ext]); repeat (first | exact Ext.refl _ | with_reducible apply Ext.add | with_reducible apply Ext.dr | apply Ext.alloc | apply Ext.ext | apply Ext.drew | refine Ext.trans ?_ (by assumption)))
    have lS : S1.heap.size < X1 := by rw [← hX1]; omega
    have lX2 : X1 < Y2.heap.size := by rw [← hX1, hY2]; ((try simp [go_sem]) <;> (try simp [Xt.add]) <;> omega)
    have lM3 : W.heap.size < Y2.heap.size := by omega
    have HR2 := hid (show ReO Y2 o _ from by rw [hY2]; exact ReO.of hR.out (by ((try simp only [ext_drew]); (try simp only [ext_ext]); repeat (first | exact Ext.refl _ | with_reducible apply Ext.add | with_reducible apply Ext.dr | apply Ext.alloc | apply Ext.ext | apply Ext.drew | refine Ext.trans ?_ (by assumption)))))
    have hox := OwnR.mono (lo' := S1.heap.size + 1) (hi' := X1) (OwnR.of hO.out (w' := Y2) (by rw [hY2]; ((try simp only [ext_drew]); (try simp only [ext_ext]); repeat (first | exact Ext.refl _ | with_reducible apply Ext.add | with_reducible apply Ext.dr | apply Ext.alloc | apply Ext.ext | apply Ext.drew | refine Ext.trans ?_ (by assumption))))) (by (try simp [go_sem]) <;> (try simp [Xt.add]) <;> omega) (by rw [← hX1]; ((try simp [go_sem]) <;> (try simp [Xt.add]) <;> omega)) (Nat.le_of_lt lX2)
    have cm0 : Y2.cell? ⟨W.heap.size, 0, none⟩ = some (.int .i64 o.map.c) := by rw [hY2]; simp [go_sem, cs0, lM2]
    have cm1 : Y2.cell? ⟨W.heap.size, 1, none⟩ = some (.int .i64 o.map.w) := by rw [hY2]; simp [go_sem, cs1, lM2]
    have cm2 : Y2.cell? ⟨W.heap.size, 2, none⟩ = some (.slice k0.a1 o.wk.length k0.c1) := by rw [hY2]; simp [go_sem, cs2, lM2]
    have cm3 : Y2.cell? ⟨W.heap.size, 3, none⟩ = some (.slice k0.a2 o.ground.length k0.c2) := by rw [hY2]; simp [go_sem, cs3, lM2]
    have cm4 : Y2.cell? ⟨W.heap.size, 4, none⟩ = some (.slice k0.a3 o.air.length k0.c3) := by rw [hY2]; simp [go_sem, cs4, lM2]
    have ca0 : Y2.cell? ⟨S1.heap.size, 0, none⟩ = some (.int .i64 v.map.c) := by rw [hY2]; simp [go_sem]
    have ca1 : Y2.cell? ⟨S1.heap.size, 1, none⟩ = some (.int .i64 v.map.w) := by rw [hY2]; simp [go_sem]
    have ca2 : Y2.cell? ⟨S1.heap.size, 2, none⟩ = some (.slice sh.a1 v.wk.length sh.c1) := by rw [hY2]; simp [go_sem]
    have ca3 : Y2.cell? ⟨S1.heap.size, 3, none⟩ = some (.slice sh.a2 v.ground.length sh.c2) := by rw [hY2]; simp [go_sem]
    have ca4 : Y2.cell? ⟨S1.heap.size, 4, none⟩ = some (.slice sh.a3 v.air.length sh.c3) := by rw [hY2]; simp [go_sem]
    have cx0 : Y2.cell? ⟨X1, 0, none⟩ = some (.int .i64 o.map.c) := by rw [← hX1, hY2]; simp [go_sem]
    have cx1 : Y2.cell? ⟨X1, 1, none⟩ = some (.int .i64 o.map.w) := by rw [← hX1, hY2]; simp [go_sem]
    have cx2 : Y2.cell? ⟨X1, 2, none⟩ = some (.slice xh.a1 o.wk.length xh.c1) := by rw [← hX1, hY2]; simp [go_sem]
    have cx3 : Y2.cell? ⟨X1, 3, none⟩ = some (.slice xh.a2 o.ground.length xh.c2) := by rw [← hX1, hY2]; simp [go_sem]
    have cx4 : Y2.cell? ⟨X1, 4, none⟩ = some (.slice xh.a3 o.air.length xh.c3) := by rw [← hX1, hY2]; simp [go_sem]
    clear hY2 hO hR hX1 cs0 cs1 cs2 cs3 cs4
    have hci := iOneDown_c o _ cell side n Y2 HR2.out HBo.out
    rw [HV.out] at hci
    refine hci.mono ?_
    clear hci
    rintro e S2 ⟨gh, rfl, hEI, hoi⟩
    have hs2 := hEI.size
    have lM4 : W.heap.size < S2.heap.size := by omega
    have lA4 : S1.heap.size < S2.heap.size := by omega
    have lX4 : X1 < S2.heap.size := by omega
    have cp0 : S2.cell? ⟨W.heap.size, 0, none⟩ = some (.int .i64 o.map.c) := (hEI.cell lM3 0).trans cm0
    have cp1 : S2.cell? ⟨W.heap.size, 1, none⟩ = some (.int .i64 o.map.w) := (hEI.cell lM3 1).trans cm1
    have cp2 : S2.cell? ⟨W.heap.size, 2, none⟩ = some (.slice k0.a1 o.wk.length k0.c1) := (hEI.cell lM3 2).trans cm2
    have cp3 : S2.cell? ⟨W.heap.size, 3, none⟩ = some (.slice k0.a2 o.ground.length k0.c2) := (hEI.cell lM3 3).trans cm3
    have cp4 : S2.cell? ⟨W.heap.size, 4, none⟩ = some (.slice k0.a3 o.air.length k0.c3) := (hEI.cell lM3 4).trans cm4
    have cq0 : S2.cell? ⟨S1.heap.size, 0, none⟩ = some (.int .i64 v.map.c) := (hEI.cell (Nat.lt_trans lS lX2) 0).trans ca0
    have cq1 : S2.cell? ⟨S1.heap.size, 1, none⟩ = some (.int .i64 v.map.w) := (hEI.cell (Nat.lt_trans lS lX2) 1).trans ca1
    have cq2 : S2.cell? ⟨S1.heap.size, 2, none⟩ = some (.slice sh.a1 v.wk.length sh.c1) := (hEI.cell (Nat.lt_trans lS lX2) 2).trans ca2
    have cq3 : S2.cell? ⟨S1.heap.size, 3, none⟩ = some (.slice sh.a2 v.ground.length sh.c2) := (hEI.cell (Nat.lt_trans lS lX2) 3).trans ca3
    have cq4 : S2.cell? ⟨S1.heap.size, 4, none⟩ = some (.slice sh.a3 v.air.length sh.c3) := (hEI.cell (Nat.lt_trans lS lX2) 4).trans ca4
    have cr0 : S2.cell? ⟨X1, 0, none⟩ = some (.int .i64 o.map.c) := (hEI.cell lX2 0).trans cx0
    have cr1 : S2.cell? ⟨X1, 1, none⟩ = some (.int .i64 o.map.w) := (hEI.cell lX2 1).trans cx1
    have cr2 : S2.cell? ⟨X1, 2, none⟩ = some (.slice xh.a1 o.wk.length xh.c1) := (hEI.cell lX2 2).trans cx2
    have cr3 : S2.cell? ⟨X1, 3, none⟩ = some (.slice xh.a2 o.ground.length xh.c2) := (hEI.cell lX2 3).trans cx3
    have cr4 : S2.cell? ⟨X1, 4, none⟩ = some (.slice xh.a3 o.air.length xh.c3) := (hEI.cell lX2 4).trans cx4
    have ES2 : Ext S1 S2 := EY2.trans hEI
    have EW2 : Ext W S2 := ES1.trans ES2
    have HOX := hid (hox.of hEI)
    have HOG := hid (hoi.mono (lo' := X1 + 1) lX2 (Nat.le_refl _) (Nat.le_refl _))
    have HOA := hid (HOS.out.of ES2)
    have HRG := hid HOG.out.one'
    have HRA := hid HOA.out.one'
    have HRX := hid HOX.out.one'
    have HRo := hid (HX.out.of EW2)
    have lS1 := (HOS.out).1
    clear hox hoi hEI HOS HR2 cm0 cm1 cm2 cm3 cm4 ca0 ca1 ca2 ca3 ca4 cx0 cx1 cx2 cx3 cx4 EY2
    try go_wp2_with (first
        | (go_at_call 19; refine (eqOne_c _ _ _ _ (ReO.of (Hid.out (by assumption)) (by ((try simp only [ext_drew]); (try simp only [ext_ext]); repeat (first | exact Ext.refl _ | with_reducible apply Ext.add | with_reducible apply Ext.dr | apply Ext.alloc | apply Ext.ext | apply Ext.drew | refine Ext.trans ?_ (by assumption))))) (ReO.of (Hid.out (by assumption)) (by ((try simp only [ext_drew]); (try simp only [ext_ext]); repeat (first | exact Ext.refl _ | with_reducible apply Ext.add | with_reducible apply Ext.dr | apply Ext.alloc | apply Ext.ext | apply Ext.drew | refine Ext.trans ?_ (by assumption))))) (Hid.out (by assumption))).mono ?_; rintro e w' ⟨rfl, t, rfl⟩) | (go_at_call 17; refine (toOne_c _ _ _ (ReO.of (Hid.out (by assumption)) (by ((try simp only [ext_drew]); (try simp only [ext_ext]); repeat (first | exact Ext.refl _ | with_reducible apply Ext.add | with_reducible apply Ext.dr | apply Ext.alloc | apply Ext.ext | apply Ext.drew | refine Ext.trans ?_ (by assumption))))) (Hid.out (by assumption))).mono ?_; rintro e w' ⟨h, rfl, ⟨t, rfl⟩, ho⟩; have hR := hid ho.one'; have hO := hid ho; clear ho)
        | (
          with_reducible refine wp_region_mix (by kernel_rfl) (by decide +kernel) ?_
          repeat (first
            | (refine mix_pure rfl ?_; (first | go_big_quiet_skip | (go_big_quiet_want; go_big_quiet_op; go_big_quiet_on)); refine wpQuiet_nil ?_)
            | (refine mix_skip (by rfl) ?_; (try simp only [Act.put, List.setIfInBounds_toArray, List.set_cons_zero, List.set_cons_succ]))
            | (refine mix_mk rfl (by rfl) (fun K hK => ?_); (first | (go_simp; first | (go_at_call 19; refine (eqOne_c _ _ _ _ (ReO.of (Hid.out (by assumption)) (by ((try simp only [ext_drew]); (try simp only [ext_ext]); repeat (first | exact Ext.refl _ | with_reducible apply Ext.add | with_reducible apply Ext.dr | apply Ext.alloc | apply Ext.ext | apply Ext.drew | refine Ext.trans ?_ (by assumption))))) (ReO.of (Hid.out (by assumption)) (by ((try simp only [ext_drew]); (try simp only [ext_ext]); repeat (first | exact Ext.refl _ | with_reducible apply Ext.add | with_reducible apply Ext.dr | apply Ext.alloc | apply Ext.ext | apply Ext.drew | refine Ext.trans ?_ (by assumption))))) (Hid.out (by assumption))).mono ?_; rintro e w' ⟨rfl, t, rfl⟩) | (go_at_call 17; refine (toOne_c _ _ _ (ReO.of (Hid.out (by assumption)) (by ((try simp only [ext_drew]); (try simp only [ext_ext]); repeat (first | exact Ext.refl _ | with_reducible apply Ext.add | with_reducible apply Ext.dr | apply Ext.alloc | apply Ext.ext | apply Ext.drew | refine Ext.trans ?_ (by assumption))))) (Hid.out (by assumption))).mono ?_; rintro e w' ⟨h, rfl, ⟨t, rfl⟩, ho⟩; have hR := hid ho.one'; have hO := hid ho; clear ho) | skip)); (show K _ _); refine hK _ _ (show Ext _ _ from (by ((try simp only [ext_drew]); (try simp only [ext_ext]); repeat (first | exact Ext.refl _ | with_reducible apply Ext.add | with_reducible apply Ext.dr | apply Ext.alloc | apply Ext.ext | apply Ext.drew | refine Ext.trans ?_ (by assumption))))) ?_; clear hK K; (try simp only [Act.put, List.setIfInBounds_toArray, List.set_cons_zero, List.set_cons_succ])))
          refine mix_nil ?_)
        | (
          with_reducible refine wp_region_ext (by kernel_rfl) (by kernel_rfl) ?_
          repeat (first | go_big_quiet_skip | (go_big_quiet_want; go_big_quiet_op; first | go_big_quiet_on | (apply Exists.intro; refine ⟨fun _ => ?_, ?_⟩; ((first | (go_at_call 19; first | exact quiet_call (eqOne_c _ _ _ _ (ReO.of (Hid.out (by assumption)) (by ((try simp only [ext_drew]); (try simp only [ext_ext]); repeat (first | exact Ext.refl _ | with_reducible apply Ext.add | with_reducible apply Ext.dr | apply Ext.alloc | apply Ext.ext | apply Ext.drew | refine Ext.trans ?_ (by assumption))))) (ReO.of (Hid.out (by assumption)) (by ((try simp only [ext_drew]); (try simp only [ext_ext]); repeat (first | exact Ext.refl _ | with_reducible apply Ext.add | with_reducible apply Ext.dr | apply Ext.alloc | apply Ext.ext | apply Ext.drew | refine Ext.trans ?_ (by assumption))))) (Hid.out (by assumption))) | exact quiet_call2 (eqOne_c _ _ _ _ (ReO.of (Hid.out (by assumption)) (by ((try simp only [ext_drew]); (try simp only [ext_ext]); repeat (first | exact Ext.refl _ | with_reducible apply Ext.add | with_reducible apply Ext.dr | apply Ext.alloc | apply Ext.ext | apply Ext.drew | refine Ext.trans ?_ (by assumption))))) (ReO.of (Hid.out (by assumption)) (by ((try simp only [ext_drew]); (try simp only [ext_ext]); repeat (first | exact Ext.refl _ | with_reducible apply Ext.add | with_reducible apply Ext.dr | apply Ext.alloc | apply Ext.ext | apply Ext.drew | refine Ext.trans ?_ (by assumption))))) (Hid.out (by assumption)))) | (go_at_call 17; first | exact quiet_call (toOne_c _ _ _ (ReO.of (Hid.out (by assumption)) (by ((try simp only [ext_drew]); (try simp only [ext_ext]); repeat (first | exact Ext.refl _ | with_reducible apply Ext.add | with_reducible apply Ext.dr | apply Ext.alloc | apply Ext.ext | apply Ext.drew | refine Ext.trans ?_ (by assumption))))) (Hid.out (by assumption))) | exact quiet_call2 (toOne_c _ _ _ (ReO.of (Hid.out (by assumption)) (by ((try simp only [ext_drew]); (try simp only [ext_ext]); repeat (first | exact Ext.refl _ | with_reducible apply Ext.add | with_reducible apply Ext.dr | apply Ext.alloc | apply Ext.ext | apply Ext.drew | refine Ext.trans ?_ (by assumption))))) (Hid.out (by assumption)))))); (try rw [h1]); (try rw [h2]); (try rw [h3]); (try rw [h4]); (try rw [p1]); (try rw [p2]); (try rw [p3]); (try rw [p4]); (try rw [r1]); (try rw [r2]); (try rw [r3]); (try rw [r4]); (try rw [r5]); (try rw [r6]); (try rw [q3]); (try rw [q4]); (try rw [hp]); (try rw [hq]); go_big_quiet_on)))
          refine wpQuiet_nil ?_
          rintro _ ⟨tq, rfl⟩))
    refine (markOne_c o _ (S1.heap.size + 1) X1 _ So _ HSO.out (HOX.out.of (by ((try simp only [ext_drew]); (try simp only [ext_ext]); repeat (first | exact Ext.refl _ | with_reducible apply Ext.add | with_reducible apply Ext.dr | apply Ext.alloc | apply Ext.ext | apply Ext.drew | refine Ext.trans ?_ (by assumption))))) (by omega) (by omega) HBo.out HLO.out).mono ?_
    rintro e M1 ⟨rfl, hx1, hk1⟩
    have sz1 := hk1.size
    have cm0 : M1.cell? ⟨W.heap.size, 0, none⟩ = some (.int .i64 o.map.c) := (hk1.cell (by (try simp [go_sem]) <;> (try simp [Xt.add]) <;> omega) (by omega) 0).trans (by simp [go_sem, cp0, lM4])
    have cm1 : M1.cell? ⟨W.heap.size, 1, none⟩ = some (.int .i64 o.map.w) := (hk1.cell (by (try simp [go_sem]) <;> (try simp [Xt.add]) <;> omega) (by omega) 1).trans (by simp [go_sem, cp1, lM4])
    have cm2 : M1.cell? ⟨W.heap.size, 2, none⟩ = some (.slice k0.a1 o.wk.length k0.c1) := (hk1.cell (by (try simp [go_sem]) <;> (try simp [Xt.add]) <;> omega) (by omega) 2).trans (by simp [go_sem, cp2, lM4])
    have cm3 : M1.cell? ⟨W.heap.size, 3, none⟩ = some (.slice k0.a2 o.ground.length k0.c2) := (hk1.cell (by (try simp [go_sem]) <;> (try simp [Xt.add]) <;> omega) (by omega) 3).trans (by simp [go_sem, cp3, lM4])
    have cm4 : M1.cell? ⟨W.heap.size, 4, none⟩ = some (.slice k0.a3 o.air.length k0.c3) := (hk1.cell (by (try simp [go_sem]) <;> (try simp [Xt.add]) <;> omega) (by omega) 4).trans (by simp [go_sem, cp4, lM4])
    have ca0 : M1.cell? ⟨S1.heap.size, 0, none⟩ = some (.int .i64 v.map.c) := (hk1.cell (by (try simp [go_sem]) <;> (try simp [Xt.add]) <;> omega) (by omega) 0).trans (by simp [go_sem, cq0, lA4])
    have ca1 : M1.cell? ⟨S1.heap.size, 1, none⟩ = some (.int .i64 v.map.w) := (hk1.cell (by (try simp [go_sem]) <;> (try simp [Xt.add]) <;> omega) (by omega) 1).trans (by simp [go_sem, cq1, lA4])
    have ca2 : M1.cell? ⟨S1.heap.size, 2, none⟩ = some (.slice sh.a1 v.wk.length sh.c1) := (hk1.cell (by (try simp [go_sem]) <;> (try simp [Xt.add]) <;> omega) (by omega) 2).trans (by simp [go_sem, cq2, lA4])
    have ca3 : M1.cell? ⟨S1.heap.size, 3, none⟩ = some (.slice sh.a2 v.ground.length sh.c2) := (hk1.cell (by (try simp [go_sem]) <;> (try simp [Xt.add]) <;> omega) (by omega) 3).trans (by simp [go_sem, cq3, lA4])
    have ca4 : M1.cell? ⟨S1.heap.size, 4, none⟩ = some (.slice sh.a3 v.air.length sh.c3) := (hk1.cell (by (try simp [go_sem]) <;> (try simp [Xt.add]) <;> omega) (by omega) 4).trans (by simp [go_sem, cq4, lA4])
    have cx0 : M1.cell? ⟨X1, 0, none⟩ = some (.int .i64 o.map.c) := (hk1.cell (by (try simp [go_sem]) <;> (try simp [Xt.add]) <;> omega) (by omega) 0).trans (by simp [go_sem, cr0, lX4])
    have cx1 : M1.cell? ⟨X1, 1, none⟩ = some (.int .i64 o.map.w) := (hk1.cell (by (try simp [go_sem]) <;> (try simp [Xt.add]) <;> omega) (by omega) 1).trans (by simp [go_sem, cr1, lX4])
    have cx2 : M1.cell? ⟨X1, 2, none⟩ = some (.slice xh.a1 o.wk.length xh.c1) := (hk1.cell (by (try simp [go_sem]) <;> (try simp [Xt.add]) <;> omega) (by omega) 2).trans (by simp [go_sem, cr2, lX4])
    have cx3 : M1.cell? ⟨X1, 3, none⟩ = some (.slice xh.a2 o.ground.length xh.c2) := (hk1.cell (by (try simp [go_sem]) <;> (try simp [Xt.add]) <;> omega) (by omega) 3).trans (by simp [go_sem, cr3, lX4])
    have cx4 : M1.cell? ⟨X1, 4, none⟩ = some (.slice xh.a3 o.air.length xh.c3) := (hk1.cell (by (try simp [go_sem]) <;> (try simp [Xt.add]) <;> omega) (by omega) 4).trans (by simp [go_sem, cr4, lX4])
    have cg0 : M1.cell? ⟨S2.heap.size, 0, none⟩ = some (.int .i64 v.map.c) := (hk1.cell (by (try simp [go_sem]) <;> (try simp [Xt.add]) <;> omega) (by omega) 0).trans (by simp [go_sem])
    have cg1 : M1.cell? ⟨S2.heap.size, 1, none⟩ = some (.int .i64 v.map.w) := (hk1.cell (by (try simp [go_sem]) <;> (try simp [Xt.add]) <;> omega) (by omega) 1).trans (by simp [go_sem])
    have cg2 : M1.cell? ⟨S2.heap.size, 2, none⟩ = some (.slice gh.a1 v.wk.length gh.c1) := (hk1.cell (by (try simp [go_sem]) <;> (try simp [Xt.add]) <;> omega) (by omega) 2).trans (by simp [go_sem])
    have cg3 : M1.cell? ⟨S2.heap.size, 3, none⟩ = some (.slice gh.a2 v.ground.length gh.c2) := (hk1.cell (by (try simp [go_sem]) <;> (try simp [Xt.add]) <;> omega) (by omega) 3).trans (by simp [go_sem])
    have cg4 : M1.cell? ⟨S2.heap.size, 4, none⟩ = some (.slice gh.a3 v.air.length gh.c3) := (hk1.cell (by (try simp [go_sem]) <;> (try simp [Xt.add]) <;> omega) (by omega) 4).trans (by simp [go_sem])
    have mM : W.heap.size < M1.heap.size := Nat.lt_of_lt_of_le (by (try simp [go_sem]) <;> (try simp [Xt.add]) <;> omega) sz1
    have mA : S1.heap.size < M1.heap.size := Nat.lt_of_lt_of_le (by (try simp [go_sem]) <;> (try simp [Xt.add]) <;> omega) sz1
    have mX : X1 < M1.heap.size := Nat.lt_of_lt_of_le (by (try simp [go_sem]) <;> (try simp [Xt.add]) <;> omega) sz1
    have mG : S2.heap.size < M1.heap.size := Nat.lt_of_lt_of_le (by (try simp [go_sem]) <;> (try simp [Xt.add]) <;> omega) sz1
    have HB1 := hid (bel_chg (W := W) (Ext.below (by ((try simp only [ext_drew]); (try simp only [ext_ext]); repeat (first | exact Ext.refl _ | with_reducible apply Ext.add | with_reducible apply Ext.dr | apply Ext.alloc | apply Ext.ext | apply Ext.drew | refine Ext.trans ?_ (by assumption))))) hk1 (by omega))
    have HOA1 := hid (OwnR.chg (HOA.out.of (by ((try simp only [ext_drew]); (try simp only [ext_ext]); repeat (first | exact Ext.refl _ | with_reducible apply Ext.add | with_reducible apply Ext.dr | apply Ext.alloc | apply Ext.ext | apply Ext.drew | refine Ext.trans ?_ (by assumption))))) hk1 (by omega))
    have HOG1 := hid (OwnR.chg (HOG.out.of (by ((try simp only [ext_drew]); (try simp only [ext_ext]); repeat (first | exact Ext.refl _ | with_reducible apply Ext.add | with_reducible apply Ext.dr | apply Ext.alloc | apply Ext.ext | apply Ext.drew | refine Ext.trans ?_ (by assumption))))) hk1 (by omega))
    have HRA1 := hid HOA1.out.one'
    have HRG1 := hid HOG1.out.one'
    clear hx1 hk1 HOA HOG HRA HRG HRX HOX HRo sz1 cp0 cp1 cp2 cp3 cp4 cq0 cq1 cq2 cq3 cq4 cr0 cr1 cr2 cr3 cr4
    try go_wp2_with (first
        | (go_at_call 19; refine (eqOne_c _ _ _ _ (ReO.of (Hid.out (by assumption)) (by ((try simp only [ext_drew]); (try simp only [ext_ext]); repeat (first | exact Ext.refl _ | with_reducible apply Ext.add | with_reducible apply Ext.dr | apply Ext.alloc | apply Ext.ext | apply Ext.drew | refine Ext.trans ?_ (by assumption))))) (ReO.of (Hid.out (by assumption)) (by ((try simp only [ext_drew]); (try simp only [ext_ext]); repeat (first | exact Ext.refl _ | with_reducible apply Ext.add | with_reducible apply Ext.dr | apply Ext.alloc | apply Ext.ext | apply Ext.drew | refine Ext.trans ?_ (by assumption))))) (Hid.out (by assumption))).mono ?_; rintro e w' ⟨rfl, t, rfl⟩)
        | (
          with_reducible refine wp_region_mix (by kernel_rfl) (by decide +kernel) ?_
          repeat (first
            | (refine mix_pure rfl ?_; (first | go_big_quiet_skip | (go_big_quiet_want; go_big_quiet_op; go_big_quiet_on)); refine wpQuiet_nil ?_)
            | (refine mix_skip (by rfl) ?_; (try simp only [Act.put, List.setIfInBounds_toArray, List.set_cons_zero, List.set_cons_succ]))
            | (refine mix_mk rfl (by rfl) (fun K hK => ?_); (first | (go_simp; first | (go_at_call 19; refine (eqOne_c _ _ _ _ (ReO.of (Hid.out (by assumption)) (by ((try simp only [ext_drew]); (try simp only [ext_ext]); repeat (first | exact Ext.refl _ | with_reducible apply Ext.add | with_reducible apply Ext.dr | apply Ext.alloc | apply Ext.ext | apply Ext.drew | refine Ext.trans ?_ (by assumption))))) (ReO.of (Hid.out (by assumption)) (by ((try simp only [ext_drew]); (try simp only [ext_ext]); repeat (first | exact Ext.refl _ | with_reducible apply Ext.add | with_reducible apply Ext.dr | apply Ext.alloc | apply Ext.ext | apply Ext.drew | refine Ext.trans ?_ (by assumption))))) (Hid.out (by assumption))).mono ?_; rintro e w' ⟨rfl, t, rfl⟩) | skip)); (show K _ _); refine hK _ _ (show Ext _ _ from (by ((try simp only [ext_drew]); (try simp only [ext_ext]); repeat (first | exact Ext.refl _ | with_reducible apply Ext.add | with_reducible apply Ext.dr | apply Ext.alloc | apply Ext.ext | apply Ext.drew | refine Ext.trans ?_ (by assumption))))) ?_; clear hK K; (try simp only [Act.put, List.setIfInBounds_toArray, List.set_cons_zero, List.set_cons_succ])))
          refine mix_nil ?_)
        | (
          with_reducible refine wp_region_ext (by kernel_rfl) (by kernel_rfl) ?_
          repeat (first | go_big_quiet_skip | (go_big_quiet_want; go_big_quiet_op; first | go_big_quiet_on | (apply Exists.intro; refine ⟨fun _ => ?_, ?_⟩; ((first | (go_at_call 19; first | exact quiet_call (eqOne_c _ _ _ _ (ReO.of (Hid.out (by assumption)) (by ((try simp only [ext_drew]); (try simp only [ext_ext]); repeat (first | exact Ext.refl _ | with_reducible apply Ext.add | with_reducible apply Ext.dr | apply Ext.alloc | apply Ext.ext | apply Ext.drew | refine Ext.trans ?_ (by assumption))))) (ReO.of (Hid.out (by assumption)) (by ((try simp only [ext_drew]); (try simp only [ext_ext]); repeat (first | exact Ext.refl _ | with_reducible apply Ext.add | with_reducible apply Ext.dr | apply Ext.alloc | apply Ext.ext | apply Ext.drew | refine Ext.trans ?_ (by assumption))))) (Hid.out (by assumption))) | exact quiet_call2 (eqOne_c _ _ _ _ (ReO.of (Hid.out (by assumption)) (by ((try simp only [ext_drew]); (try simp only [ext_ext]); repeat (first | exact Ext.refl _ | with_reducible apply Ext.add | with_reducible apply Ext.dr | apply Ext.alloc | apply Ext.ext | apply Ext.drew | refine Ext.trans ?_ (by assumption))))) (ReO.of (Hid.out (by assumption)) (by ((try simp only [ext_drew]); (try simp only [ext_ext]); repeat (first | exact Ext.refl _ | with_reducible apply Ext.add | with_reducible apply Ext.dr | apply Ext.alloc | apply Ext.ext | apply Ext.drew | refine Ext.trans ?_ (by assumption))))) (Hid.out (by assumption)))))); (try rw [h1]); (try rw [h2]); (try rw [h3]); (try rw [h4]); (try rw [p1]); (try rw [p2]); (try rw [p3]); (try rw [p4]); (try rw [r1]); (try rw [r2]); (try rw [r3]); (try rw [r4]); (try rw [r5]); (try rw [r6]); (try rw [q3]); (try rw [q4]); (try rw [hp]); (try rw [hq]); go_big_quiet_on)))
          refine wpQuiet_nil ?_
          rintro _ ⟨tq, rfl⟩))
    refine (markOne_c v _ (X1 + 1) S2.heap.size _ Sv _ HSV.out (HOG1.out.of (by ((try simp only [ext_drew]); (try simp only [ext_ext]); repeat (first | exact Ext.refl _ | with_reducible apply Ext.add | with_reducible apply Ext.dr | apply Ext.alloc | apply Ext.ext | apply Ext.drew | refine Ext.trans ?_ (by assumption))))) (by omega) (by omega) HBv.out HLV.out).mono ?_
    rintro e M2 ⟨rfl, hx2, hk2⟩
    have sz2 := hk2.size
    have cp0 : M2.cell? ⟨W.heap.size, 0, none⟩ = some (.int .i64 o.map.c) := (hk2.cell (by (try simp [go_sem]) <;> (try simp [Xt.add]) <;> omega) (by omega) 0).trans (by simp [go_sem, cm0, mM])
    have cp1 : M2.cell? ⟨W.heap.size, 1, none⟩ = some (.int .i64 o.map.w) := (hk2.cell (by (try simp [go_sem]) <;> (try simp [Xt.add]) <;> omega) (by omega) 1).trans (by simp [go_sem, cm1, mM])
    have cp2 : M2.cell? ⟨W.heap.size, 2, none⟩ = some (.slice k0.a1 o.wk.length k0.c1) := (hk2.cell (by (try simp [go_sem]) <;> (try simp [Xt.add]) <;> omega) (by omega) 2).trans (by simp [go_sem, cm2, mM])
    have cp3 : M2.cell? ⟨W.heap.size, 3, none⟩ = some (.slice k0.a2 o.ground.length k0.c2) := (hk2.cell (by (try simp [go_sem]) <;> (try simp [Xt.add]) <;> omega) (by omega) 3).trans (by simp [go_sem, cm3, mM])
    have cp4 : M2.cell? ⟨W.heap.size, 4, none⟩ = some (.slice k0.a3 o.air.length k0.c3) := (hk2.cell (by (try simp [go_sem]) <;> (try simp [Xt.add]) <;> omega) (by omega) 4).trans (by simp [go_sem, cm4, mM])
    have cq0 : M2.cell? ⟨S1.heap.size, 0, none⟩ = some (.int .i64 v.map.c) := (hk2.cell (by (try simp [go_sem]) <;> (try simp [Xt.add]) <;> omega) (by omega) 0).trans (by simp [go_sem, ca0, mA])
    have cq1 : M2.cell? ⟨S1.heap.size, 1, none⟩ = some (.int .i64 v.map.w) := (hk2.cell (by (try simp [go_sem]) <;> (try simp [Xt.add]) <;> omega) (by omega) 1).trans (by simp [go_sem, ca1, mA])
    have cq2 : M2.cell? ⟨S1.heap.size, 2, none⟩ = some (.slice sh.a1 v.wk.length sh.c1) := (hk2.cell (by (try simp [go_sem]) <;> (try simp [Xt.add]) <;> omega) (by omega) 2).trans (by simp [go_sem, ca2, mA])
    have cq3 : M2.cell? ⟨S1.heap.size, 3, none⟩ = some (.slice sh.a2 v.ground.length sh.c2) := (hk2.cell (by (try simp [go_sem]) <;> (try simp [Xt.add]) <;> omega) (by omega) 3).trans (by simp [go_sem, ca3, mA])
    have cq4 : M2.cell? ⟨S1.heap.size, 4, none⟩ = some (.slice sh.a3 v.air.length sh.c3) := (hk2.cell (by (try simp [go_sem]) <;> (try simp [Xt.add]) <;> omega) (by omega) 4).trans (by simp [go_sem, ca4, mA])
    have cr0 : M2.cell? ⟨S2.heap.size, 0, none⟩ = some (.int .i64 v.map.c) := (hk2.cell (by (try simp [go_sem]) <;> (try simp [Xt.add]) <;> omega) (by omega) 0).trans (by simp [go_sem, cg0, mG])
    have cr1 : M2.cell? ⟨S2.heap.size, 1, none⟩ = some (.int .i64 v.map.w) := (hk2.cell (by (try simp [go_sem]) <;> (try simp [Xt.add]) <;> omega) (by omega) 1).trans (by simp [go_sem, cg1, mG])
    have cr2 : M2.cell? ⟨S2.heap.size, 2, none⟩ = some (.slice gh.a1 v.wk.length gh.c1) := (hk2.cell (by (try simp [go_sem]) <;> (try simp [Xt.add]) <;> omega) (by omega) 2).trans (by simp [go_sem, cg2, mG])
    have cr3 : M2.cell? ⟨S2.heap.size, 3, none⟩ = some (.slice gh.a2 v.ground.length gh.c2) := (hk2.cell (by (try simp [go_sem]) <;> (try simp [Xt.add]) <;> omega) (by omega) 3).trans (by simp [go_sem, cg3, mG])
    have cr4 : M2.cell? ⟨S2.heap.size, 4, none⟩ = some (.slice gh.a3 v.air.length gh.c3) := (hk2.cell (by (try simp [go_sem]) <;> (try simp [Xt.add]) <;> omega) (by omega) 4).trans (by simp [go_sem, cg4, mG])
    have nM : W.heap.size < M2.heap.size := Nat.lt_of_lt_of_le (by (try simp [go_sem]) <;> (try simp [Xt.add]) <;> omega) sz2
    have nA : S1.heap.size < M2.heap.size := Nat.lt_of_lt_of_le (by (try simp [go_sem]) <;> (try simp [Xt.add]) <;> omega) sz2
    have nG : S2.heap.size < M2.heap.size := Nat.lt_of_lt_of_le (by (try simp [go_sem]) <;> (try simp [Xt.add]) <;> omega) sz2
    have HB2 := hid (bel_chg (W := W) (bel_ext HB1.out (by ((try simp only [ext_drew]); (try simp only [ext_ext]); repeat (first | exact Ext.refl _ | with_reducible apply Ext.add | with_reducible apply Ext.dr | apply Ext.alloc | apply Ext.ext | apply Ext.drew | refine Ext.trans ?_ (by assumption))))) hk2 (by omega))
    have HOA2 := hid (OwnR.chg (HOA1.out.of (by ((try simp only [ext_drew]); (try simp only [ext_ext]); repeat (first | exact Ext.refl _ | with_reducible apply Ext.add | with_reducible apply Ext.dr | apply Ext.alloc | apply Ext.ext | apply Ext.drew | refine Ext.trans ?_ (by assumption))))) hk2 (by omega))
    have HRA2 := hid HOA2.out.one'
    have HRK := hid hx2.one''
    have HRo := hid (HX.out.below HB2.out)
    clear hx2 hk2 HOA1 HOG1 HRA1 HRG1 HB1 sz2 cm0 cm1 cm2 cm3 cm4 ca0 ca1 ca2 ca3 ca4 cx0 cx1 cx2 cx3 cx4 cg0 cg1 cg2 cg3 cg4
    try go_wp2_with (first
        | (go_at_call 17; refine (toOne_c _ _ _ (ReO.of (Hid.out (by assumption)) (by ((try simp only [ext_drew]); (try simp only [ext_ext]); repeat (first | exact Ext.refl _ | with_reducible apply Ext.add | with_reducible apply Ext.dr | apply Ext.alloc | apply Ext.ext | apply Ext.drew | refine Ext.trans ?_ (by assumption))))) (Hid.out (by assumption))).mono ?_; rintro e w' ⟨h, rfl, ⟨t, rfl⟩, ho⟩; have hR := hid ho.one'; have hO := hid ho; clear ho) | (go_at_call 21; (with_reducible refine (heldOne_c v _ _ Sv _ HSV.out (HRK.out.of (by ((try simp only [ext_drew]); (try simp only [ext_ext]); repeat (first | exact Ext.refl _ | with_reducible apply Ext.add | with_reducible apply Ext.dr | apply Ext.alloc | apply Ext.ext | apply Ext.drew | refine Ext.trans ?_ (by assumption))))) (by omega) (by omega) HBv.out HLV.out).mono ?_); rintro e w' ⟨rfl, t, rfl⟩)
        | (
          with_reducible refine wp_region_mix (by kernel_rfl) (by decide +kernel) ?_
          repeat (first
            | (refine mix_pure rfl ?_; (first | go_big_quiet_skip | (go_big_quiet_want; go_big_quiet_op; go_big_quiet_on)); refine wpQuiet_nil ?_)
            | (refine mix_skip (by rfl) ?_; (try simp only [Act.put, List.setIfInBounds_toArray, List.set_cons_zero, List.set_cons_succ]))
            | (refine mix_mk rfl (by rfl) (fun K hK => ?_); (first | (go_simp; first | (go_at_call 17; refine (toOne_c _ _ _ (ReO.of (Hid.out (by assumption)) (by ((try simp only [ext_drew]); (try simp only [ext_ext]); repeat (first | exact Ext.refl _ | with_reducible apply Ext.add | with_reducible apply Ext.dr | apply Ext.alloc | apply Ext.ext | apply Ext.drew | refine Ext.trans ?_ (by assumption))))) (Hid.out (by assumption))).mono ?_; rintro e w' ⟨h, rfl, ⟨t, rfl⟩, ho⟩; have hR := hid ho.one'; have hO := hid ho; clear ho) | (go_at_call 21; (with_reducible refine (heldOne_c v _ _ Sv _ HSV.out (HRK.out.of (by ((try simp only [ext_drew]); (try simp only [ext_ext]); repeat (first | exact Ext.refl _ | with_reducible apply Ext.add | with_reducible apply Ext.dr | apply Ext.alloc | apply Ext.ext | apply Ext.drew | refine Ext.trans ?_ (by assumption))))) (by omega) (by omega) HBv.out HLV.out).mono ?_); rintro e w' ⟨rfl, t, rfl⟩) | skip)); (show K _ _); refine hK _ _ (show Ext _ _ from (by ((try simp only [ext_drew]); (try simp only [ext_ext]); repeat (first | exact Ext.refl _ | with_reducible apply Ext.add | with_reducible apply Ext.dr | apply Ext.alloc | apply Ext.ext | apply Ext.drew | refine Ext.trans ?_ (by assumption))))) ?_; clear hK K; (try simp only [Act.put, List.setIfInBounds_toArray, List.set_cons_zero, List.set_cons_succ])))
          refine mix_nil ?_)
        | (
          with_reducible refine wp_region_ext (by kernel_rfl) (by kernel_rfl) ?_
          repeat (first | go_big_quiet_skip | (go_big_quiet_want; go_big_quiet_op; first | go_big_quiet_on | (apply Exists.intro; refine ⟨fun _ => ?_, ?_⟩; ((first | (go_at_call 17; first | exact quiet_call (toOne_c _ _ _ (ReO.of (Hid.out (by assumption)) (by ((try simp only [ext_drew]); (try simp only [ext_ext]); repeat (first | exact Ext.refl _ | with_reducible apply Ext.add | with_reducible apply Ext.dr | apply Ext.alloc | apply Ext.ext | apply Ext.drew | refine Ext.trans ?_ (by assumption))))) (Hid.out (by assumption))) | exact quiet_call2 (toOne_c _ _ _ (ReO.of (Hid.out (by assumption)) (by ((try simp only [ext_drew]); (try simp only [ext_ext]); repeat (first | exact Ext.refl _ | with_reducible apply Ext.add | with_reducible apply Ext.dr | apply Ext.alloc | apply Ext.ext | apply Ext.drew | refine Ext.trans ?_ (by assumption))))) (Hid.out (by assumption)))))); (try rw [h1]); (try rw [h2]); (try rw [h3]); (try rw [h4]); (try rw [p1]); (try rw [p2]); (try rw [p3]); (try rw [p4]); (try rw [r1]); (try rw [r2]); (try rw [r3]); (try rw [r4]); (try rw [r5]); (try rw [r6]); (try rw [q3]); (try rw [q4]); (try rw [hp]); (try rw [hq]); go_big_quiet_on)))
          refine wpQuiet_nil ?_
          rintro _ ⟨tq, rfl⟩))
    refine calls_gen fun Y3 hY3 => ?_
    have EY3 : Ext M2 Y3 := by rw [hY3]; ((try simp only [ext_drew]); (try simp only [ext_ext]); repeat (first | exact Ext.refl _ | with_reducible apply Ext.add | with_reducible apply Ext.dr | apply Ext.alloc | apply Ext.ext | apply Ext.drew | refine Ext.trans ?_ (by assumption)))
    have HR3 := hid (show ReO Y3 o _ from by rw [hY3]; exact ReO.of hR.out (by ((try simp only [ext_drew]); (try simp only [ext_ext]); repeat (first | exact Ext.refl _ | with_reducible apply Ext.add | with_reducible apply Ext.dr | apply Ext.alloc | apply Ext.ext | apply Ext.drew | refine Ext.trans ?_ (by assumption)))))
    have ca0 : Y3.cell? ⟨S1.heap.size, 0, none⟩ = some (.int .i64 v.map.c) := by rw [hY3]; simp [go_sem, cq0, nA]
    have ca1 : Y3.cell? ⟨S1.heap.size, 1, none⟩ = some (.int .i64 v.map.w) := by rw [hY3]; simp [go_sem, cq1, nA]
    have ca2 : Y3.cell? ⟨S1.heap.size, 2, none⟩ = some (.slice sh.a1 v.wk.length sh.c1) := by rw [hY3]; simp [go_sem, cq2, nA]
    have ca3 : Y3.cell? ⟨S1.heap.size, 3, none⟩ = some (.slice sh.a2 v.ground.length sh.c2) := by rw [hY3]; simp [go_sem, cq3, nA]
    have ca4 : Y3.cell? ⟨S1.heap.size, 4, none⟩ = some (.slice sh.a3 v.air.length sh.c3) := by rw [hY3]; simp [go_sem, cq4, nA]
    have cg0 : Y3.cell? ⟨S2.heap.size, 0, none⟩ = some (.int .i64 v.map.c) := by rw [hY3]; simp [go_sem, cr0, nG]
    have cg1 : Y3.cell? ⟨S2.heap.size, 1, none⟩ = some (.int .i64 v.map.w) := by rw [hY3]; simp [go_sem, cr1, nG]
    have cg2 : Y3.cell? ⟨S2.heap.size, 2, none⟩ = some (.slice gh.a1 v.wk.length gh.c1) := by rw [hY3]; simp [go_sem, cr2, nG]
    have cg3 : Y3.cell? ⟨S2.heap.size, 3, none⟩ = some (.slice gh.a2 v.ground.length gh.c2) := by rw [hY3]; simp [go_sem, cr3, nG]
    have cg4 : Y3.cell? ⟨S2.heap.size, 4, none⟩ = some (.slice gh.a3 v.air.length gh.c3) := by rw [hY3]; simp [go_sem, cr4, nG]
    have oA : S1.heap.size < Y3.heap.size := Nat.lt_of_lt_of_le nA EY3.size
    have oG : S2.heap.size < Y3.heap.size := Nat.lt_of_lt_of_le nG EY3.size
    clear hY3 hO hR
    have hci := iOneDown_c o _ cell side n Y3 HR3.out HBo.out
    rw [HV.out] at hci
    refine hci.mono ?_
    clear hci
    rintro e S3 ⟨nh, rfl, ⟨t3, rfl⟩, hoi⟩
    have HRN := hid hoi.one'
    have E3 : Ext M2 (ext Y3 t3) := (by ((try simp only [ext_drew]); (try simp only [ext_ext]); repeat (first | exact Ext.refl _ | with_reducible apply Ext.add | with_reducible apply Ext.dr | apply Ext.alloc | apply Ext.ext | apply Ext.drew | refine Ext.trans ?_ (by assumption))))
    have HRA3 := hid (HRA2.out.of EY3)
    have HRK3 := hid (HRK.out.of EY3)
    clear hoi
    try go_wp2_with (first
        | (go_at_call 19; refine (eqOne_c _ _ _ _ (ReO.of (Hid.out (by assumption)) (by ((try simp only [ext_drew]); (try simp only [ext_ext]); repeat (first | exact Ext.refl _ | with_reducible apply Ext.add | with_reducible apply Ext.dr | apply Ext.alloc | apply Ext.ext | apply Ext.drew | refine Ext.trans ?_ (by assumption))))) (ReO.of (Hid.out (by assumption)) (by ((try simp only [ext_drew]); (try simp only [ext_ext]); repeat (first | exact Ext.refl _ | with_reducible apply Ext.add | with_reducible apply Ext.dr | apply Ext.alloc | apply Ext.ext | apply Ext.drew | refine Ext.trans ?_ (by assumption))))) (Hid.out (by assumption))).mono ?_; rintro e w' ⟨rfl, t, rfl⟩) | (go_at_call 21; (with_reducible refine (heldOne_c v _ _ Sv _ HSV.out (HRK3.out.of (by ((try simp only [ext_drew]); (try simp only [ext_ext]); repeat (first | exact Ext.refl _ | with_reducible apply Ext.add | with_reducible apply Ext.dr | apply Ext.alloc | apply Ext.ext | apply Ext.drew | refine Ext.trans ?_ (by assumption))))) (by omega) (by omega) HBv.out HLV.out).mono ?_); rintro e w' ⟨rfl, t, rfl⟩)
        | (
          with_reducible refine wp_region_mix (by kernel_rfl) (by decide +kernel) ?_
          repeat (first
            | (refine mix_pure rfl ?_; (first | go_big_quiet_skip | (go_big_quiet_want; go_big_quiet_op; go_big_quiet_on)); refine wpQuiet_nil ?_)
            | (refine mix_skip (by rfl) ?_; (try simp only [Act.put, List.setIfInBounds_toArray, List.set_cons_zero, List.set_cons_succ]))
            | (refine mix_mk rfl (by rfl) (fun K hK => ?_); (first | (go_simp; first | (go_at_call 19; refine (eqOne_c _ _ _ _ (ReO.of (Hid.out (by assumption)) (by ((try simp only [ext_drew]); (try simp only [ext_ext]); repeat (first | exact Ext.refl _ | with_reducible apply Ext.add | with_reducible apply Ext.dr | apply Ext.alloc | apply Ext.ext | apply Ext.drew | refine Ext.trans ?_ (by assumption))))) (ReO.of (Hid.out (by assumption)) (by ((try simp only [ext_drew]); (try simp only [ext_ext]); repeat (first | exact Ext.refl _ | with_reducible apply Ext.add | with_reducible apply Ext.dr | apply Ext.alloc | apply Ext.ext | apply Ext.drew | refine Ext.trans ?_ (by assumption))))) (Hid.out (by assumption))).mono ?_; rintro e w' ⟨rfl, t, rfl⟩) | (go_at_call 21; (with_reducible refine (heldOne_c v _ _ Sv _ HSV.out (HRK3.out.of (by ((try simp only [ext_drew]); (try simp only [ext_ext]); repeat (first | exact Ext.refl _ | with_reducible apply Ext.add | with_reducible apply Ext.dr | apply Ext.alloc | apply Ext.ext | apply Ext.drew | refine Ext.trans ?_ (by assumption))))) (by omega) (by omega) HBv.out HLV.out).mono ?_); rintro e w' ⟨rfl, t, rfl⟩) | skip)); (show K _ _); refine hK _ _ (show Ext _ _ from (by ((try simp only [ext_drew]); (try simp only [ext_ext]); repeat (first | exact Ext.refl _ | with_reducible apply Ext.add | with_reducible apply Ext.dr | apply Ext.alloc | apply Ext.ext | apply Ext.drew | refine Ext.trans ?_ (by assumption))))) ?_; clear hK K; (try simp only [Act.put, List.setIfInBounds_toArray, List.set_cons_zero, List.set_cons_succ])))
          refine mix_nil ?_)
        | (
          with_reducible refine wp_region_ext (by kernel_rfl) (by kernel_rfl) ?_
          repeat (first | go_big_quiet_skip | (go_big_quiet_want; go_big_quiet_op; first | go_big_quiet_on | (apply Exists.intro; refine ⟨fun _ => ?_, ?_⟩; ((first | (go_at_call 19; first | exact quiet_call (eqOne_c _ _ _ _ (ReO.of (Hid.out (by assumption)) (by ((try simp only [ext_drew]); (try simp only [ext_ext]); repeat (first | exact Ext.refl _ | with_reducible apply Ext.add | with_reducible apply Ext.dr | apply Ext.alloc | apply Ext.ext | apply Ext.drew | refine Ext.trans ?_ (by assumption))))) (ReO.of (Hid.out (by assumption)) (by ((try simp only [ext_drew]); (try simp only [ext_ext]); repeat (first | exact Ext.refl _ | with_reducible apply Ext.add | with_reducible apply Ext.dr | apply Ext.alloc | apply Ext.ext | apply Ext.drew | refine Ext.trans ?_ (by assumption))))) (Hid.out (by assumption))) | exact quiet_call2 (eqOne_c _ _ _ _ (ReO.of (Hid.out (by assumption)) (by ((try simp only [ext_drew]); (try simp only [ext_ext]); repeat (first | exact Ext.refl _ | with_reducible apply Ext.add | with_reducible apply Ext.dr | apply Ext.alloc | apply Ext.ext | apply Ext.drew | refine Ext.trans ?_ (by assumption))))) (ReO.of (Hid.out (by assumption)) (by ((try simp only [ext_drew]); (try simp only [ext_ext]); repeat (first | exact Ext.refl _ | with_reducible apply Ext.add | with_reducible apply Ext.dr | apply Ext.alloc | apply Ext.ext | apply Ext.drew | refine Ext.trans ?_ (by assumption))))) (Hid.out (by assumption)))))); (try rw [h1]); (try rw [h2]); (try rw [h3]); (try rw [h4]); (try rw [p1]); (try rw [p2]); (try rw [p3]); (try rw [p4]); (try rw [r1]); (try rw [r2]); (try rw [r3]); (try rw [r4]); (try rw [r5]); (try rw [r6]); (try rw [q3]); (try rw [q4]); (try rw [hp]); (try rw [hq]); go_big_quiet_on)))
          refine wpQuiet_nil ?_
          rintro _ ⟨tq, rfl⟩))
    go_ret
    exact ⟨rfl, bel_ext HB2.out (EY3.trans (by ((try simp only [ext_drew]); (try simp only [ext_ext]); repeat (first | exact Ext.refl _ | with_reducible apply Ext.add | with_reducible apply Ext.dr | apply Ext.alloc | apply Ext.ext | apply Ext.drew | refine Ext.trans ?_ (by assumption)))))⟩

set_option maxRecDepth 100000 in
theorem fnExactOneDown_lifted (os : Os) (started : os.Started) (H : Type) (enc : TypeId × Value → H) :
    ReturnsInHanded {} Try.checked os 5 .any (Rows.fnExactOneDownSpec.pre6 enc Try.prog Try.f5 Rows.fnExactOneDownRow.domain false) (Rows.fnExactOneDownSpec.post enc Try.prog Try.f5 false true false false) := by
  refine returnsInHanded_of_change (C := Try.checked) own_knob started (by kernel_rfl) Try.func5
    (ChangeSpec.witness6 (enc := enc) (C := Try.checked) false ⟨#[], #[.agg #[.int .i64 0, .int .i64 0, .slice none 0 0, .slice none 0 0, .slice none 0 0], .int .i64 0, .int .i64 0, .int .i64 0], []⟩ 8 (by kernel_rfl) (by kernel_rfl) (by kernel_rfl) (by kernel_rfl)) ?_
  intro W base args ds gs before hval0 hW _ _
  have hval : ∀ (j : Nat) t v, Try.f5.params[j]? = some t → args[j]? = some v → Value.okWide Try.prog W .any base t v := hval0
  have hfin : ∀ W', Below W.heap.size W W' → Rows.fnExactOneDownSpec.post enc Try.prog Try.f5 false true false false W args (.bool true) W' := fun W' hb =>
    law_post laid_out rfl bool_ty rfl (by kernel_rfl) hW (fun ds h => by match ds, h with | [_, _, _, _], _ => rfl) hb
  suffices hwalk : Calls Try.prog 5 args W fun e W' => e = .returned (.bool true) ∧ Below W.heap.size W W' by
    refine hwalk.mono fun e W' ⟨he, hb⟩ => ?_
    subst he
    exact ⟨_, rfl, hfin W' hb⟩
  clear hfin
  obtain ⟨p, q, hA0, hV, _, hfz, hnd⟩ := hW
  have hA : DataW.TrodAll enc Try.prog W 0 (fun _ => true) true Try.f5.params.toList args.toList ds p := hA0
  clear hA0 hval0 hV hfz hnd
  rw [Try.params5] at hA hval
  obtain ⟨v0, vs0, d0, ds0, p0, q0, hargs0, _, _, h0, r0⟩ := trodAll_cons hA
  obtain ⟨v1, vs1, d1, ds1, p1, q1, hargs1, _, _, h1, r1⟩ := trodAll_cons r0
  obtain ⟨v2, vs2, d2, ds2, p2, q2, hargs2, _, _, h2, r2⟩ := trodAll_cons r1
  obtain ⟨v3, vs3, d3, ds3, p3, q3, hargs3, _, _, h3, r3⟩ := trodAll_cons r2
  obtain ⟨hnil, _, _⟩ := trodAll_nil r3
  obtain rfl : args = #[v0, v1, v2, v3] := by cases args; simp_all
  clear hargs0 hargs1 hargs2 hargs3 hnil
  obtain ⟨cs0, rfl, _⟩ := okWide_struct Try.underlying40 (hval 0 40 v0 rfl rfl)
  obtain ⟨e0, hd0⟩ := open_arg (s := sOne) (by kernel_rfl) h0
  obtain ⟨o, o_h, hm0, o_r⟩ := open_One hd0
  obtain rfl : cs0 = #[.int .i64 o.map.c, .int .i64 o.map.w, .slice o_h.a1 o.wk.length o_h.c1, .slice o_h.a2 o.ground.length o_h.c2, .slice o_h.a3 o.air.length o_h.c3] := by apply Array.toList_inj.1; exact hm0
  obtain ⟨cell, rfl, _, _, _⟩ := open_int Try.underlying3 (hval 1 3 v1 rfl rfl) h1
  obtain ⟨side, rfl, _, _, _⟩ := open_int Try.underlying3 (hval 2 3 v2 rfl rfl) h2
  obtain ⟨n, rfl, _, _, _⟩ := open_int Try.underlying3 (hval 3 3 v3 rfl rfl) h3
  exact fnExactOneDown_walk W o o_h o_r cell side n

theorem fnExactOneDown_holds : Rows.FnExactOneDownSaid :=
  OpenClaim.holds_of_wide 5 Try.f5 rfl rfl rfl rfl rfl rfl rfl ⟨rfl, rfl, rfl, rfl, rfl⟩ rfl rfl rfl rfl rfl (by kernel_rfl) Try.func5 (by kernel_rfl)
    (of_decide_eq_true (by kernel_rfl)) (by unfold Func.isWrapper; rw [if_neg (by decide +kernel)]; exact ⟨rfl, rfl⟩)
    (fun os started H enc _ => fnExactOneDown_lifted os started H enc)


end Go.Proofs.Ytcfbfpgcfnpdgaa
