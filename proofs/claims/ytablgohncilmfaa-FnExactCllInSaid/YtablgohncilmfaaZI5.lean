/- FnExactCllIn: the program's function returns what the reference's returns; for all arguments. -/
import Derived.Test.YtablgohncilmfaaZI1
import Derived.Test.YtablgohncilmfaaZI4
namespace Go.Proofs.Ytablgohncilmfaa
open Go.ChangeShapes Go.WideShapes Go.ChangeAt Go.RowKit
set_option linter.unusedSimpArgs false
set_option linter.unusedVariables false

theorem CllF.sum {m : Mp} {c : Cll} (h : CllF m c) : (c.outs.map List.length).sum ≤ 4194304 := by
  obtain ⟨a, b, e⟩ : ∃ a b, c.outs = [a, b] := by
    have := h.lo
    match c.outs, this with
    | [a, b], _ => exact ⟨a, b, rfl⟩
  obtain ⟨xs, _, _, h0, _, _, _, _, _, l0, _⟩ := h.side 0 (by omega)
  obtain ⟨ys, _, _, h1, _, _, _, _, _, l1, _⟩ := h.side 1 (by omega)
  rw [e] at h0 h1 ⊢
  simp only [List.getElem?_cons_zero, List.getElem?_cons_succ, Option.some.injEq] at h0 h1
  subst h0 h1
  simp only [List.map_cons, List.map_nil, List.sum_cons, List.sum_nil]
  omega
theorem cin_ok {m : Mp} {c : Cll} {s : Int} {p : Pcl} (hb : cinB m c s p = true) : CllF m (iIn m c s p).1 := by
  simp only [cinB, Bool.and_eq_true, Bool.not_eq_true', beq_eq_false_iff_ne] at hb
  obtain ⟨_, _, _, s0, s1, _⟩ := plcSide_ne hb.2
  obtain ⟨k, rfl⟩ : ∃ k : Nat, s = k := ⟨s.toNat, by omega⟩
  exact in_ok (cllF_iff.1 hb.1.1) hb.1.2 hb.2
theorem cinV_bd {m : Mp} {c : Cll} {s : Int} {p : Pcl} : BdC (cinV m c s p) := by
  unfold cinV
  cases hb : cinB m c s p with
  | false => exact ⟨by simp [cllZ], by simp [cllZ], by simp [cllZ], by simp [cllZ], by simp [cllZ]⟩
  | true => exact ((cin_ok hb : CllF m (iIn m c s p).1)).bd
theorem cinV_sum {m : Mp} {c : Cll} {s : Int} {p : Pcl} : ((cinV m c s p).outs.map List.length).sum ≤ 4194304 := by
  unfold cinV
  cases hb : cinB m c s p with
  | false => simp [cllZ]
  | true => exact ((cin_ok hb : CllF m (iIn m c s p).1)).sum
set_option maxRecDepth 100000 in
set_option maxHeartbeats 16000000 in
theorem fnExactCllIn_walk (W : World) (m : Mp) (c : Cll) (k0 : CllH) (hx : ReC W c k0) (s : Int) (p : Pcl) :
    Calls Try.prog 3 #[.agg #[.int .i64 m.c, .int .i64 m.w], .agg #[.int .i64 c.cell, .slice k0.a1 c.wk.length k0.c1, .int .i64 c.ground, .slice k0.a3 c.outs.length k0.c3, .slice k0.a4 c.next.length k0.c4, .slice k0.a5 c.ins.length k0.c5], .int .i64 s, .agg #[.int .i64 p.n, .int .i64 p.kind, .int .i64 p.wk.id, .int .i64 p.wk.at_, .int .i64 p.wk.coins, .int .i64 p.wk.seq, .int .i64 p.wk.last, .int .i64 p.coins]] W fun e W' => e = .returned (.bool true) ∧ Below W.heap.size W W' := by
  have HX := hid hx
  clear hx
  obtain ⟨q, hq⟩ : ∃ q, szRun 1048576 (cllLens c) = q := ⟨_, rfl⟩
  have hb := szRun_le (cllLens c) 1048576 (by omega)
  rw [hq] at hb
  have hb1 := hb.1
  have hb2 := hb.2
  have HQ := hid hq
  clear hb hq
  by_cases t2 : q < 0
  · go_enter Try.func3, Try.ntmps3
    try go_wp2_with (first
        | (go_at_call 13; refine (szCll_c _ _ _ _ _ (ReC.of (Hid.out (by assumption)) zq0) (Hid.out (by assumption)) (by omega) (by omega)).mono ?_; rintro e w' ⟨rfl, t, rfl⟩)
        | (
          with_reducible refine wp_region_mix (by kernel_rfl) (by decide +kernel) ?_
          repeat (first
            | (refine mix_pure rfl ?_; (first | go_big_quiet_skip | (go_big_quiet_want; go_big_quiet_op; go_big_quiet_on)); refine wpQuiet_nil ?_)
            | (refine mix_skip (by rfl) ?_; (try simp only [Act.put, List.setIfInBounds_toArray, List.set_cons_zero, List.set_cons_succ]))
            | (refine mix_mk rfl (by rfl) (fun K hK => ?_); (first | (go_simp; first | (go_at_call 13; refine (szCll_c _ _ _ _ _ (ReC.of (Hid.out (by assumption)) zq0) (Hid.out (by assumption)) (by omega) (by omega)).mono ?_; rintro e w' ⟨rfl, t, rfl⟩) | skip)); (show K _ _); refine hK _ _ (show Ext _ _ from zq0) ?_; clear hK K; (try simp only [Act.put, List.setIfInBounds_toArray, List.set_cons_zero, List.set_cons_succ])))
          refine mix_nil ?_)
        | (
          with_reducible refine wp_region_ext (by kernel_rfl) (by kernel_rfl) ?_
          repeat (first | go_big_quiet_skip | (go_big_quiet_want; go_big_quiet_op; first | go_big_quiet_on | (apply Exists.intro; refine ⟨fun _ => ?_, ?_⟩; ((first | (go_at_call 13; first | exact quiet_call (szCll_c _ _ _ _ _ (ReC.of (Hid.out (by assumption)) zq0) (Hid.out (by assumption)) (by omega) (by omega)) | exact quiet_call2 (szCll_c _ _ _ _ _ (ReC.of (Hid.out (by assumption)) zq0) (Hid.out (by assumption)) (by omega) (by omega))))); (try rw [h1]); (try rw [h2]); (try rw [h3]); (try rw [h4]); (try rw [p1]); (try rw [p2]); (try rw [p3]); (try rw [p4]); (try rw [r1]); (try rw [r2]); (try rw [r3]); (try rw [r4]); (try rw [r5]); (try rw [r6]); (try rw [q3]); (try rw [q4]); (try rw [hp]); (try rw [hq]); go_big_quiet_on)))
          refine wpQuiet_nil ?_
          rintro _ ⟨tq, rfl⟩))
    go_ret
    exact ⟨rfl, Ext.below zq0⟩
  · have HBc := hid (BdC.mk' (c := c) (fun n hn => szRun_mem (cllLens c) 1048576 (by omega) (by rw [HQ.out]; omega) n hn))
    have hsc := cll_sum (c := c) (by rw [HQ.out]; omega)
    obtain ⟨v, hv⟩ : ∃ v, cinV m c s p = v := ⟨_, rfl⟩
    obtain ⟨x, hx⟩ : ∃ x, cinT m c s p = x := ⟨_, rfl⟩
    have HBv := hid (show BdC v from hv ▸ cinV_bd)
    have hsv : (v.outs.map List.length).sum ≤ 4194304 := hv ▸ cinV_sum
    have HSC := hid (fun (h : CllH) (w : World) (hr : ReC w c h) => (show Calls Try.prog 14 #[.agg #[.int .i64 m.c, .int .i64 m.w], .agg #[.int .i64 c.cell, .slice h.a1 c.wk.length h.c1, .int .i64 c.ground, .slice h.a3 c.outs.length h.c3, .slice h.a4 c.next.length h.c4, .slice h.a5 c.ins.length h.c5], .int .i64 s, .agg #[.int .i64 p.n, .int .i64 p.kind, .int .i64 p.wk.id, .int .i64 p.wk.at_, .int .i64 p.wk.coins, .int .i64 p.wk.seq, .int .i64 p.wk.last, .int .i64 p.coins]] w (MadeCV w v (.bool x)) from hv ▸ hx ▸ sCllIn_c m c h s p w hr HBc.out))
    have HIC := hid (fun (h : CllH) (w : World) (hr : ReC w c h) => (show Calls Try.prog 18 #[.agg #[.int .i64 m.c, .int .i64 m.w], .agg #[.int .i64 c.cell, .slice h.a1 c.wk.length h.c1, .int .i64 c.ground, .slice h.a3 c.outs.length h.c3, .slice h.a4 c.next.length h.c4, .slice h.a5 c.ins.length h.c5], .int .i64 s, .agg #[.int .i64 p.n, .int .i64 p.kind, .int .i64 p.wk.id, .int .i64 p.wk.at_, .int .i64 p.wk.coins, .int .i64 p.wk.seq, .int .i64 p.wk.last, .int .i64 p.coins]] w (MadeCV w v (.bool x)) from hv ▸ hx ▸ iCllIn_c m c h s p w hr HBc.out))
    clear hv hx
    have c1 := HBc.out.b1
    have c4 := HBc.out.b4
    have c5 := HBc.out.b5
    have v1 := HBv.out.b1
    have v4 := HBv.out.b4
    have v5 := HBv.out.b5
    obtain ⟨Sc, hSc⟩ : ∃ S, ((8 * (c.outs.map List.length).sum : Nat) : Int) = S := ⟨_, rfl⟩
    obtain ⟨Sv, hSv⟩ : ∃ S, ((8 * (v.outs.map List.length).sum : Nat) : Int) = S := ⟨_, rfl⟩
    have sc0 : 0 ≤ Sc := by omega
    have sv0 : 0 ≤ Sv := by omega
    have sc1 : Sc ≤ 33554432 := by omega
    have sv1 : Sv ≤ 33554432 := by omega
    have HSc := hid hSc
    have HSv := hid hSv
    have HLc := hid (show (c.outs.map List.length).sum ≤ 4194304 by omega)
    have HLv := hid hsv
    clear hSc hSv hsc hsv
    go_enter Try.func3, Try.ntmps3
    try go_wp2_with (first
        | (go_at_call 13; refine (szCll_c _ _ _ _ _ (ReC.of (Hid.out (by assumption)) zq0) (Hid.out (by assumption)) (by omega) (by omega)).mono ?_; rintro e w' ⟨rfl, t, rfl⟩)
        | (
          with_reducible refine wp_region_mix (by kernel_rfl) (by decide +kernel) ?_
          repeat (first
            | (refine mix_pure rfl ?_; (first | go_big_quiet_skip | (go_big_quiet_want; go_big_quiet_op; go_big_quiet_on)); refine wpQuiet_nil ?_)
            | (refine mix_skip (by rfl) ?_; (try simp only [Act.put, List.setIfInBounds_toArray, List.set_cons_zero, List.set_cons_succ]))
            | (refine mix_mk rfl (by rfl) (fun K hK => ?_); (first | (go_simp; first | (go_at_call 13; refine (szCll_c _ _ _ _ _ (ReC.of (Hid.out (by assumption)) zq0) (Hid.out (by assumption)) (by omega) (by omega)).mono ?_; rintro e w' ⟨rfl, t, rfl⟩) | skip)); (show K _ _); refine hK _ _ (show Ext _ _ from zq0) ?_; clear hK K; (try simp only [Act.put, List.setIfInBounds_toArray, List.set_cons_zero, List.set_cons_succ])))
          refine mix_nil ?_)
        | (
          with_reducible refine wp_region_ext (by kernel_rfl) (by kernel_rfl) ?_
          repeat (first | go_big_quiet_skip | (go_big_quiet_want; go_big_quiet_op; first | go_big_quiet_on | (apply Exists.intro; refine ⟨fun _ => ?_, ?_⟩; ((first | (go_at_call 13; first | exact quiet_call (szCll_c _ _ _ _ _ (ReC.of (Hid.out (by assumption)) zq0) (Hid.out (by assumption)) (by omega) (by omega)) | exact quiet_call2 (szCll_c _ _ _ _ _ (ReC.of (Hid.out (by assumption)) zq0) (Hid.out (by assumption)) (by omega) (by omega))))); (try rw [h1]); (try rw [h2]); (try rw [h3]); (try rw [h4]); (try rw [p1]); (try rw [p2]); (try rw [p3]); (try rw [p4]); (try rw [r1]); (try rw [r2]); (try rw [r3]); (try rw [r4]); (try rw [r5]); (try rw [r6]); (try rw [q3]); (try rw [q4]); (try rw [hp]); (try rw [hq]); go_big_quiet_on)))
          refine wpQuiet_nil ?_
          rintro _ ⟨tq, rfl⟩))
    refine wp_region_gapT' 11 12 #[.int .i64 0, .slice none 0 0, .int .i64 0, .slice none 0 0, .slice none 0 0, .slice none 0 0] 37 (by kernel_rfl) (by decide +kernel) (by kernel_rfl) rfl (by kernel_rfl) rfl rfl rfl rfl rfl rfl rfl rfl (fun a w => by go_simp) ?_
    simp only [List.take_succ_cons, List.take_zero, List.eraseIdx_cons_succ, List.eraseIdx_cons_zero, List.drop_succ_cons, List.drop_zero]
    repeat (first
      | (refine gap_pure rfl ?_; (first | go_big_quiet_skip | (go_big_quiet_want; go_big_quiet_op; go_big_quiet_on)); refine wpQuiet_nil ?_)
      | (refine gap_skip (by rfl) ?_; (try simp only [Act.put, List.setIfInBounds_toArray, List.set_cons_zero, List.set_cons_succ]))
      | (refine gap_mk rfl (by rfl) (fun V hV R hKR => ?_); (first | (go_simp; first | (go_at_call 15; refine (toMp_c _ _).mono ?_; rintro e w' ⟨rfl, t, rfl⟩) | (go_at_call 16; refine (toCll_c _ _ _ (ReC.of (Hid.out (by assumption)) zq0) (Hid.out (by assumption))).mono ?_; rintro e w' ⟨h, rfl, ⟨t, rfl⟩, ho⟩; have hR := hid ho.cll; have hO := hid ho; clear ho) | (go_at_call 17; refine (toPcl_c _ _).mono ?_; rintro e w' ⟨rfl, t, rfl⟩) | (go_at_call 14; (with_reducible refine (HSC.out _ _ (ReC.of (Hid.out (by assumption)) zq0)).mono ?_); rintro e w' ⟨sh, rfl, ⟨t, rfl⟩, ho⟩; have hR := hid ho.cll; have HOs := hid ho; clear ho) | skip)); (show R _ _); refine hKR _ _ (show Ext _ _ from zq0) ?_; clear hKR R; (try simp only [Act.put, List.setIfInBounds_toArray, List.set_cons_zero, List.set_cons_succ])))
    refine gap_nil ?_
    intro V1 p1 hV1 hp1 hl1 hiv1
    refine ⟨_, rfl, rfl, by simp [Value.oneCell'], rfl, fun W1 hE1 hc1 hb1 => ?_⟩
    (try simp only [Act.put, List.setIfInBounds_toArray, List.set_cons_zero, List.set_cons_succ])
    repeat (refine mix_pure rfl ?_; (first | go_big_quiet_skip | (go_big_quiet_want; go_big_quiet_op; go_big_quiet_on)); refine wpQuiet_nil ?_)
    refine mix_nil ?_
    have EW1 : Ext W W1 := zq0
    have lM1 : W.heap.size < W1.heap.size := Nat.lt_of_lt_of_le zq1 hE1.size
    have cM01 : W1.cell? ⟨W.heap.size, 0, none⟩ = some (.int .i64 m.c) := (hE1.cell zq1 0).trans (by simp [go_sem])
    have cM11 : W1.cell? ⟨W.heap.size, 1, none⟩ = some (.int .i64 m.w) := (hE1.cell zq1 1).trans (by simp [go_sem])
    have lB1 : W.heap.size + 1 < W1.heap.size := Nat.lt_of_lt_of_le zq1 hE1.size
    have cB01 : W1.cell? ⟨W.heap.size + 1, 0, none⟩ = some (.int .i64 c.cell) := (hE1.cell zq1 0).trans (by simp [go_sem])
    have cB11 : W1.cell? ⟨W.heap.size + 1, 1, none⟩ = some (.slice k0.a1 c.wk.length k0.c1) := (hE1.cell zq1 1).trans (by simp [go_sem])
    have cB21 : W1.cell? ⟨W.heap.size + 1, 2, none⟩ = some (.int .i64 c.ground) := (hE1.cell zq1 2).trans (by simp [go_sem])
    have cB31 : W1.cell? ⟨W.heap.size + 1, 3, none⟩ = some (.slice k0.a3 c.outs.length k0.c3) := (hE1.cell zq1 3).trans (by simp [go_sem])
    have cB41 : W1.cell? ⟨W.heap.size + 1, 4, none⟩ = some (.slice k0.a4 c.next.length k0.c4) := (hE1.cell zq1 4).trans (by simp [go_sem])
    have cB51 : W1.cell? ⟨W.heap.size + 1, 5, none⟩ = some (.slice k0.a5 c.ins.length k0.c5) := (hE1.cell zq1 5).trans (by simp [go_sem])
    have lP01 : W.heap.size + 2 < W1.heap.size := Nat.lt_of_lt_of_le zq1 hE1.size
    have cP001 : W1.cell? ⟨W.heap.size + 2, 0, none⟩ = some (.int .i64 p.n) := (hE1.cell zq1 0).trans (by simp [go_sem])
    have cP011 : W1.cell? ⟨W.heap.size + 2, 1, none⟩ = some (.int .i64 p.kind) := (hE1.cell zq1 1).trans (by simp [go_sem])
    have cP021 : W1.cell? ⟨W.heap.size + 2, 2, none⟩ = some (.int .i64 p.wk.id) := (hE1.cell zq1 2).trans (by simp [go_sem])
    have cP031 : W1.cell? ⟨W.heap.size + 2, 3, none⟩ = some (.int .i64 p.wk.at_) := (hE1.cell zq1 3).trans (by simp [go_sem])
    have cP041 : W1.cell? ⟨W.heap.size + 2, 4, none⟩ = some (.int .i64 p.wk.coins) := (hE1.cell zq1 4).trans (by simp [go_sem])
    have cP051 : W1.cell? ⟨W.heap.size + 2, 5, none⟩ = some (.int .i64 p.wk.seq) := (hE1.cell zq1 5).trans (by simp [go_sem])
    have cP061 : W1.cell? ⟨W.heap.size + 2, 6, none⟩ = some (.int .i64 p.wk.last) := (hE1.cell zq1 6).trans (by simp [go_sem])
    have cP071 : W1.cell? ⟨W.heap.size + 2, 7, none⟩ = some (.int .i64 p.coins) := (hE1.cell zq1 7).trans (by simp [go_sem])
    have lp1 := lt_blk hb1
    have cp01 : W1.cell? ⟨p1, 0, none⟩ = some (.int .i64 v.cell) := (cell_blk hb1 0).trans rfl
    have cp11 : W1.cell? ⟨p1, 1, none⟩ = some (.slice sh.a1 v.wk.length sh.c1) := (cell_blk hb1 1).trans rfl
    have cp21 : W1.cell? ⟨p1, 2, none⟩ = some (.int .i64 v.ground) := (cell_blk hb1 2).trans rfl
    have cp31 : W1.cell? ⟨p1, 3, none⟩ = some (.slice sh.a3 v.outs.length sh.c3) := (cell_blk hb1 3).trans rfl
    have cp41 : W1.cell? ⟨p1, 4, none⟩ = some (.slice sh.a4 v.next.length sh.c4) := (cell_blk hb1 4).trans rfl
    have cp51 : W1.cell? ⟨p1, 5, none⟩ = some (.slice sh.a5 v.ins.length sh.c5) := (cell_blk hb1 5).trans rfl
    obtain ⟨lo1, hi1, hlo1, hhi1, hd1, hos⟩ := gap_own2 HOs.out hV1 hc1 (hiv1 _ (List.mem_cons_self)) (b0 := W.heap.size) (Ext.size zq0)
    have HOs1 := hid hos
    clear hos HOs hE1 hc1 hb1 hiv1 hl1 hp1 hV1 hR
    try go_wp2_with (first
        | (go_at_call 16; refine (toCll_c _ _ _ (ReC.of (Hid.out (by assumption)) zq0) (Hid.out (by assumption))).mono ?_; rintro e w' ⟨h, rfl, ⟨t, rfl⟩, ho⟩; have hR := hid ho.cll; have hO := hid ho; clear ho)
        | (
          with_reducible refine wp_region_mix (by kernel_rfl) (by decide +kernel) ?_
          repeat (first
            | (refine mix_pure rfl ?_; (first | go_big_quiet_skip | (go_big_quiet_want; go_big_quiet_op; go_big_quiet_on)); refine wpQuiet_nil ?_)
            | (refine mix_skip (by rfl) ?_; (try simp only [Act.put, List.setIfInBounds_toArray, List.set_cons_zero, List.set_cons_succ]))
            | (refine mix_mk rfl (by rfl) (fun K hK => ?_); (first | (go_simp; first | (go_at_call 16; refine (toCll_c _ _ _ (ReC.of (Hid.out (by assumption)) zq0) (Hid.out (by assumption))).mono ?_; rintro e w' ⟨h, rfl, ⟨t, rfl⟩, ho⟩; have hR := hid ho.cll; have hO := hid ho; clear ho) | skip)); (show K _ _); refine hK _ _ (show Ext _ _ from zq0) ?_; clear hK K; (try simp only [Act.put, List.setIfInBounds_toArray, List.set_cons_zero, List.set_cons_succ])))
          refine mix_nil ?_)
        | (
          with_reducible refine wp_region_ext (by kernel_rfl) (by kernel_rfl) ?_
          repeat (first | go_big_quiet_skip | (go_big_quiet_want; go_big_quiet_op; first | go_big_quiet_on | (apply Exists.intro; refine ⟨fun _ => ?_, ?_⟩; ((first | (go_at_call 16; first | exact quiet_call (toCll_c _ _ _ (ReC.of (Hid.out (by assumption)) zq0) (Hid.out (by assumption))) | exact quiet_call2 (toCll_c _ _ _ (ReC.of (Hid.out (by assumption)) zq0) (Hid.out (by assumption)))))); (try rw [h1]); (try rw [h2]); (try rw [h3]); (try rw [h4]); (try rw [p1]); (try rw [p2]); (try rw [p3]); (try rw [p4]); (try rw [r1]); (try rw [r2]); (try rw [r3]); (try rw [r4]); (try rw [r5]); (try rw [r6]); (try rw [q3]); (try rw [q4]); (try rw [hp]); (try rw [hq]); go_big_quiet_on)))
          refine wpQuiet_nil ?_
          rintro _ ⟨tq, rfl⟩))
    refine wp_gen fun X1 hX1 => ?_
    generalize hXe : W1.heap.size + t.bs.size = X
    obtain ⟨xh, rfl⟩ : ∃ z, z = h := ⟨_, rfl⟩
    have EX : Ext W1 X1 := by rw [hX1]; ((try simp only [ext_drew]); (try simp only [ext_ext]); repeat (first | exact Ext.refl _ | with_reducible apply Ext.add | with_reducible apply Ext.dr | apply Ext.alloc | apply Ext.ext | apply Ext.drew | refine Ext.trans ?_ (by assumption)))
    have lX : X < X1.heap.size := by rw [← hXe, hX1]; ((try simp [go_sem]) <;> (try simp [Xt.add]) <;> omega)
    have hWX : W1.heap.size ≤ X := by omega
    have cX0 : X1.cell? ⟨X, 0, none⟩ = some (.int .i64 c.cell) := by rw [← hXe, hX1]; simp [go_sem]
    have cX1 : X1.cell? ⟨X, 1, none⟩ = some (.slice xh.a1 c.wk.length xh.c1) := by rw [← hXe, hX1]; simp [go_sem]
    have cX2 : X1.cell? ⟨X, 2, none⟩ = some (.int .i64 c.ground) := by rw [← hXe, hX1]; simp [go_sem]
    have cX3 : X1.cell? ⟨X, 3, none⟩ = some (.slice xh.a3 c.outs.length xh.c3) := by rw [← hXe, hX1]; simp [go_sem]
    have cX4 : X1.cell? ⟨X, 4, none⟩ = some (.slice xh.a4 c.next.length xh.c4) := by rw [← hXe, hX1]; simp [go_sem]
    have cX5 : X1.cell? ⟨X, 5, none⟩ = some (.slice xh.a5 c.ins.length xh.c5) := by rw [← hXe, hX1]; simp [go_sem]
    have hox := OwnR.mono (lo' := W1.heap.size) (hi' := X) (OwnR.of hO.out (w' := X1) (by rw [hX1]; ((try simp only [ext_drew]); (try simp only [ext_ext]); repeat (first | exact Ext.refl _ | with_reducible apply Ext.add | with_reducible apply Ext.dr | apply Ext.alloc | apply Ext.ext | apply Ext.drew | refine Ext.trans ?_ (by assumption))))) zq1 (by rw [← hXe]; ((try simp [go_sem]) <;> (try simp [Xt.add]) <;> omega)) (Nat.le_of_lt lX)
    have HOx := hid hox
    have HRx := hid hox.cll
    clear hox hO hR hX1 hXe
    have lMX := Nat.lt_of_lt_of_le lM1 EX.size
    have cM0X := (EX.cell lM1 0).trans cM01
    have cM1X := (EX.cell lM1 1).trans cM11
    have lBX := Nat.lt_of_lt_of_le lB1 EX.size
    have cB0X := (EX.cell lB1 0).trans cB01
    have cB1X := (EX.cell lB1 1).trans cB11
    have cB2X := (EX.cell lB1 2).trans cB21
    have cB3X := (EX.cell lB1 3).trans cB31
    have cB4X := (EX.cell lB1 4).trans cB41
    have cB5X := (EX.cell lB1 5).trans cB51
    have lP0X := Nat.lt_of_lt_of_le lP01 EX.size
    have cP00X := (EX.cell lP01 0).trans cP001
    have cP01X := (EX.cell lP01 1).trans cP011
    have cP02X := (EX.cell lP01 2).trans cP021
    have cP03X := (EX.cell lP01 3).trans cP031
    have cP04X := (EX.cell lP01 4).trans cP041
    have cP05X := (EX.cell lP01 5).trans cP051
    have cP06X := (EX.cell lP01 6).trans cP061
    have cP07X := (EX.cell lP01 7).trans cP071
    have lpX := Nat.lt_of_lt_of_le lp1 EX.size
    have cp0X := (EX.cell lp1 0).trans cp01
    have cp1X := (EX.cell lp1 1).trans cp11
    have cp2X := (EX.cell lp1 2).trans cp21
    have cp3X := (EX.cell lp1 3).trans cp31
    have cp4X := (EX.cell lp1 4).trans cp41
    have cp5X := (EX.cell lp1 5).trans cp51
    have HOsX := hid (HOs1.out.of EX)
    clear HOs1 cM01 cM11 cB01 cB11 cB21 cB31 cB41 cB51 cP001 cP011 cP021 cP031 cP041 cP051 cP061 cP071 cp01 cp11 cp21 cp31 cp41 cp51
    refine wp_region_gap' 10 11 #[.int .i64 0, .slice none 0 0, .int .i64 0, .slice none 0 0, .slice none 0 0, .slice none 0 0] 37 (by kernel_rfl) (by decide +kernel) (by kernel_rfl) rfl (by kernel_rfl) rfl rfl rfl rfl rfl rfl rfl rfl (fun a w => by go_simp) ?_
    simp only [List.take_succ_cons, List.take_zero, List.eraseIdx_cons_succ, List.eraseIdx_cons_zero, List.drop_succ_cons, List.drop_zero]
    repeat (first
      | (refine gap_pure rfl ?_; (first | go_big_quiet_skip | (go_big_quiet_want; go_big_quiet_op; go_big_quiet_on)); refine wpQuiet_nil ?_)
      | (refine gap_skip (by rfl) ?_; (try simp only [Act.put, List.setIfInBounds_toArray, List.set_cons_zero, List.set_cons_succ]))
      | (refine gap_mk rfl (by rfl) (fun V hV R hKR => ?_); (first | (go_simp; first | (go_at_call 15; refine (toMp_c _ _).mono ?_; rintro e w' ⟨rfl, t, rfl⟩) | (go_at_call 17; refine (toPcl_c _ _).mono ?_; rintro e w' ⟨rfl, t, rfl⟩) | (go_at_call 18; (with_reducible refine (HIC.out _ _ (ReC.of (Hid.out (by assumption)) zq0)).mono ?_); rintro e w' ⟨gh, rfl, ⟨t, rfl⟩, ho⟩; have hR := hid ho.cll; have HOi := hid ho; clear ho) | skip)); (show R _ _); refine hKR _ _ (show Ext _ _ from zq0) ?_; clear hKR R; (try simp only [Act.put, List.setIfInBounds_toArray, List.set_cons_zero, List.set_cons_succ])))
    refine gap_nil ?_
    intro V2 p2 hV2 hp2 hl2 hiv2
    refine ⟨_, rfl, rfl, by simp [Value.oneCell'], rfl, fun W2 hE2 hc2 hb2 => ?_⟩
    (try simp only [Act.put, List.setIfInBounds_toArray, List.set_cons_zero, List.set_cons_succ])
    repeat (refine mix_pure rfl ?_; (first | go_big_quiet_skip | (go_big_quiet_want; go_big_quiet_op; go_big_quiet_on)); refine wpQuiet_nil ?_)
    refine mix_nil ?_
    have EW2 : Ext X1 W2 := zq0
    have lM2 := Nat.lt_of_lt_of_le lMX EW2.size
    have lB2 := Nat.lt_of_lt_of_le lBX EW2.size
    have lP02 := Nat.lt_of_lt_of_le lP0X EW2.size
    have lp12 := Nat.lt_of_lt_of_le lpX EW2.size
    have lX2 := Nat.lt_of_lt_of_le lX EW2.size
    have cM02 := (EW2.cell lMX 0).trans cM0X
    have cM12 := (EW2.cell lMX 1).trans cM1X
    have cB02 := (EW2.cell lBX 0).trans cB0X
    have cB12 := (EW2.cell lBX 1).trans cB1X
    have cB22 := (EW2.cell lBX 2).trans cB2X
    have cB32 := (EW2.cell lBX 3).trans cB3X
    have cB42 := (EW2.cell lBX 4).trans cB4X
    have cB52 := (EW2.cell lBX 5).trans cB5X
    have cP002 := (EW2.cell lP0X 0).trans cP00X
    have cP012 := (EW2.cell lP0X 1).trans cP01X
    have cP022 := (EW2.cell lP0X 2).trans cP02X
    have cP032 := (EW2.cell lP0X 3).trans cP03X
    have cP042 := (EW2.cell lP0X 4).trans cP04X
    have cP052 := (EW2.cell lP0X 5).trans cP05X
    have cP062 := (EW2.cell lP0X 6).trans cP06X
    have cP072 := (EW2.cell lP0X 7).trans cP07X
    have cq02 := (EW2.cell lpX 0).trans cp0X
    have cq12 := (EW2.cell lpX 1).trans cp1X
    have cq22 := (EW2.cell lpX 2).trans cp2X
    have cq32 := (EW2.cell lpX 3).trans cp3X
    have cq42 := (EW2.cell lpX 4).trans cp4X
    have cq52 := (EW2.cell lpX 5).trans cp5X
    have cX02 := (EW2.cell lX 0).trans cX0
    have cX12 := (EW2.cell lX 1).trans cX1
    have cX22 := (EW2.cell lX 2).trans cX2
    have cX32 := (EW2.cell lX 3).trans cX3
    have cX42 := (EW2.cell lX 4).trans cX4
    have cX52 := (EW2.cell lX 5).trans cX5
    have lp2 := lt_blk hb2
    have cr02 : W2.cell? ⟨p2, 0, none⟩ = some (.int .i64 v.cell) := (cell_blk hb2 0).trans rfl
    have cr12 : W2.cell? ⟨p2, 1, none⟩ = some (.slice gh.a1 v.wk.length gh.c1) := (cell_blk hb2 1).trans rfl
    have cr22 : W2.cell? ⟨p2, 2, none⟩ = some (.int .i64 v.ground) := (cell_blk hb2 2).trans rfl
    have cr32 : W2.cell? ⟨p2, 3, none⟩ = some (.slice gh.a3 v.outs.length gh.c3) := (cell_blk hb2 3).trans rfl
    have cr42 : W2.cell? ⟨p2, 4, none⟩ = some (.slice gh.a4 v.next.length gh.c4) := (cell_blk hb2 4).trans rfl
    have cr52 : W2.cell? ⟨p2, 5, none⟩ = some (.slice gh.a5 v.ins.length gh.c5) := (cell_blk hb2 5).trans rfl
    have hXp2 : X < p2 := Nat.lt_of_lt_of_le lX hp2
    obtain ⟨lo2, hi2, hlo2, hhi2, hd2, hoi⟩ := gap_own2 HOi.out hV2 hc2 (hiv2 _ (List.mem_cons_self)) (b0 := X1.heap.size) (Ext.size zq0)
    have HOi0 := hid hoi
    have HRi := hid hoi.cll
    have HOs0 := hid (HOsX.out.of EW2)
    have HRs := hid HOs0.out.cll
    have HOx0 := hid (HOx.out.of EW2)
    have HRy := hid HOx0.out.cll
    have HRo := hid (HX.out.of (EW1.trans (EX.trans EW2)))
    clear hoi HOi hE2 hc2 hb2 hiv2 hl2 hp2 hV2 hR HOsX HOx HRx cp0X cp1X cp2X cp3X cp4X cp5X cX0 cX1 cX2 cX3 cX4 cX5 cM0X cM1X cB0X cB1X cB2X cB3X cB4X cB5X cP00X cP01X cP02X cP03X cP04X cP05X cP06X cP07X
    try go_wp2_with (first
        | (go_at_call 19; refine (eqCll_c _ _ _ _ (ReC.of (Hid.out (by assumption)) zq0) (ReC.of (Hid.out (by assumption)) zq0) (Hid.out (by assumption))).mono ?_; rintro e w' ⟨rfl, t, rfl⟩) | (go_at_call 16; refine (toCll_c _ _ _ (ReC.of (Hid.out (by assumption)) zq0) (Hid.out (by assumption))).mono ?_; rintro e w' ⟨h, rfl, ⟨t, rfl⟩, ho⟩; have hR := hid ho.cll; have hO := hid ho; clear ho)
        | (
          with_reducible refine wp_region_mix (by kernel_rfl) (by decide +kernel) ?_
          repeat (first
            | (refine mix_pure rfl ?_; (first | go_big_quiet_skip | (go_big_quiet_want; go_big_quiet_op; go_big_quiet_on)); refine wpQuiet_nil ?_)
            | (refine mix_skip (by rfl) ?_; (try simp only [Act.put, List.setIfInBounds_toArray, List.set_cons_zero, List.set_cons_succ]))
            | (refine mix_mk rfl (by rfl) (fun K hK => ?_); (first | (go_simp; first | (go_at_call 19; refine (eqCll_c _ _ _ _ (ReC.of (Hid.out (by assumption)) zq0) (ReC.of (Hid.out (by assumption)) zq0) (Hid.out (by assumption))).mono ?_; rintro e w' ⟨rfl, t, rfl⟩) | (go_at_call 16; refine (toCll_c _ _ _ (ReC.of (Hid.out (by assumption)) zq0) (Hid.out (by assumption))).mono ?_; rintro e w' ⟨h, rfl, ⟨t, rfl⟩, ho⟩; have hR := hid ho.cll; have hO := hid ho; clear ho) | skip)); (show K _ _); refine hK _ _ (show Ext _ _ from zq0) ?_; clear hK K; (try simp only [Act.put, List.setIfInBounds_toArray, List.set_cons_zero, List.set_cons_succ])))
          refine mix_nil ?_)
        | (
          with_reducible refine wp_region_ext (by kernel_rfl) (by kernel_rfl) ?_
          repeat (first | go_big_quiet_skip | (go_big_quiet_want; go_big_quiet_op; first | go_big_quiet_on | (apply Exists.intro; refine ⟨fun _ => ?_, ?_⟩; ((first | (go_at_call 19; first | exact quiet_call (eqCll_c _ _ _ _ (ReC.of (Hid.out (by assumption)) zq0) (ReC.of (Hid.out (by assumption)) zq0) (Hid.out (by assumption))) | exact quiet_call2 (eqCll_c _ _ _ _ (ReC.of (Hid.out (by assumption)) zq0) (ReC.of (Hid.out (by assumption)) zq0) (Hid.out (by assumption)))) | (go_at_call 16; first | exact quiet_call (toCll_c _ _ _ (ReC.of (Hid.out (by assumption)) zq0) (Hid.out (by assumption))) | exact quiet_call2 (toCll_c _ _ _ (ReC.of (Hid.out (by assumption)) zq0) (Hid.out (by assumption)))))); (try rw [h1]); (try rw [h2]); (try rw [h3]); (try rw [h4]); (try rw [p1]); (try rw [p2]); (try rw [p3]); (try rw [p4]); (try rw [r1]); (try rw [r2]); (try rw [r3]); (try rw [r4]); (try rw [r5]); (try rw [r6]); (try rw [q3]); (try rw [q4]); (try rw [hp]); (try rw [hq]); go_big_quiet_on)))
          refine wpQuiet_nil ?_
          rintro _ ⟨tq, rfl⟩))
    refine (markCll_c c _ W1.heap.size X _ Sc _ HSc.out (HOx0.out.of zq0) (by omega) (by omega) HBc.out HLc.out).mono ?_
    rintro e M1 ⟨rfl, hx1, hk1⟩
    have sz1 := hk1.size
    have dM0 := (hk1.cell (b := W.heap.size) zq1 (by omega) 0).trans ((ext_cell' _ _ _ _ lM2).trans cM02)
    have dM1 := (hk1.cell (b := W.heap.size) zq1 (by omega) 1).trans ((ext_cell' _ _ _ _ lM2).trans cM12)
    have mM : W.heap.size < M1.heap.size := Nat.lt_of_lt_of_le zq1 sz1
    have dB0 := (hk1.cell (b := W.heap.size + 1) zq1 (by omega) 0).trans ((ext_cell' _ _ _ _ lB2).trans cB02)
    have dB1 := (hk1.cell (b := W.heap.size + 1) zq1 (by omega) 1).trans ((ext_cell' _ _ _ _ lB2).trans cB12)
    have dB2 := (hk1.cell (b := W.heap.size + 1) zq1 (by omega) 2).trans ((ext_cell' _ _ _ _ lB2).trans cB22)
    have dB3 := (hk1.cell (b := W.heap.size + 1) zq1 (by omega) 3).trans ((ext_cell' _ _ _ _ lB2).trans cB32)
    have dB4 := (hk1.cell (b := W.heap.size + 1) zq1 (by omega) 4).trans ((ext_cell' _ _ _ _ lB2).trans cB42)
    have dB5 := (hk1.cell (b := W.heap.size + 1) zq1 (by omega) 5).trans ((ext_cell' _ _ _ _ lB2).trans cB52)
    have mB : W.heap.size + 1 < M1.heap.size := Nat.lt_of_lt_of_le zq1 sz1
    have dP00 := (hk1.cell (b := W.heap.size + 2) zq1 (by omega) 0).trans ((ext_cell' _ _ _ _ lP02).trans cP002)
    have dP01 := (hk1.cell (b := W.heap.size + 2) zq1 (by omega) 1).trans ((ext_cell' _ _ _ _ lP02).trans cP012)
    have dP02 := (hk1.cell (b := W.heap.size + 2) zq1 (by omega) 2).trans ((ext_cell' _ _ _ _ lP02).trans cP022)
    have dP03 := (hk1.cell (b := W.heap.size + 2) zq1 (by omega) 3).trans ((ext_cell' _ _ _ _ lP02).trans cP032)
    have dP04 := (hk1.cell (b := W.heap.size + 2) zq1 (by omega) 4).trans ((ext_cell' _ _ _ _ lP02).trans cP042)
    have dP05 := (hk1.cell (b := W.heap.size + 2) zq1 (by omega) 5).trans ((ext_cell' _ _ _ _ lP02).trans cP052)
    have dP06 := (hk1.cell (b := W.heap.size + 2) zq1 (by omega) 6).trans ((ext_cell' _ _ _ _ lP02).trans cP062)
    have dP07 := (hk1.cell (b := W.heap.size + 2) zq1 (by omega) 7).trans ((ext_cell' _ _ _ _ lP02).trans cP072)
    have mP0 : W.heap.size + 2 < M1.heap.size := Nat.lt_of_lt_of_le zq1 sz1
    have dp0 := (hk1.cell (b := p1) zq1 (by omega) 0).trans ((ext_cell' _ _ _ _ lp12).trans cq02)
    have dp1 := (hk1.cell (b := p1) zq1 (by omega) 1).trans ((ext_cell' _ _ _ _ lp12).trans cq12)
    have dp2 := (hk1.cell (b := p1) zq1 (by omega) 2).trans ((ext_cell' _ _ _ _ lp12).trans cq22)
    have dp3 := (hk1.cell (b := p1) zq1 (by omega) 3).trans ((ext_cell' _ _ _ _ lp12).trans cq32)
    have dp4 := (hk1.cell (b := p1) zq1 (by omega) 4).trans ((ext_cell' _ _ _ _ lp12).trans cq42)
    have dp5 := (hk1.cell (b := p1) zq1 (by omega) 5).trans ((ext_cell' _ _ _ _ lp12).trans cq52)
    have mp : p1 < M1.heap.size := Nat.lt_of_lt_of_le zq1 sz1
    have dr0 := (hk1.cell (b := p2) zq1 (by omega) 0).trans ((ext_cell' _ _ _ _ lp2).trans cr02)
    have dr1 := (hk1.cell (b := p2) zq1 (by omega) 1).trans ((ext_cell' _ _ _ _ lp2).trans cr12)
    have dr2 := (hk1.cell (b := p2) zq1 (by omega) 2).trans ((ext_cell' _ _ _ _ lp2).trans cr22)
    have dr3 := (hk1.cell (b := p2) zq1 (by omega) 3).trans ((ext_cell' _ _ _ _ lp2).trans cr32)
    have dr4 := (hk1.cell (b := p2) zq1 (by omega) 4).trans ((ext_cell' _ _ _ _ lp2).trans cr42)
    have dr5 := (hk1.cell (b := p2) zq1 (by omega) 5).trans ((ext_cell' _ _ _ _ lp2).trans cr52)
    have mr : p2 < M1.heap.size := Nat.lt_of_lt_of_le zq1 sz1
    have dX0 := (hk1.cell (b := X) zq1 (by omega) 0).trans ((ext_cell' _ _ _ _ lX2).trans cX02)
    have dX1 := (hk1.cell (b := X) zq1 (by omega) 1).trans ((ext_cell' _ _ _ _ lX2).trans cX12)
    have dX2 := (hk1.cell (b := X) zq1 (by omega) 2).trans ((ext_cell' _ _ _ _ lX2).trans cX22)
    have dX3 := (hk1.cell (b := X) zq1 (by omega) 3).trans ((ext_cell' _ _ _ _ lX2).trans cX32)
    have dX4 := (hk1.cell (b := X) zq1 (by omega) 4).trans ((ext_cell' _ _ _ _ lX2).trans cX42)
    have dX5 := (hk1.cell (b := X) zq1 (by omega) 5).trans ((ext_cell' _ _ _ _ lX2).trans cX52)
    have mX : X < M1.heap.size := Nat.lt_of_lt_of_le zq1 sz1
    have HB1 := hid (bel_chg (W := W) (Ext.below zq0) hk1 EW1.size)
    have HOs3 := hid (OwnR.chg (HOs0.out.of zq0) hk1 (.inl hhi1))
    have HOi3 := hid (OwnR.chg (HOi0.out.of zq0) hk1 (by omega))
    have HRs3 := hid HOs3.out.cll
    have HRi3 := hid HOi3.out.cll
    clear hx1 hk1 HOs0 HOi0 HRs HRi HOx0 HRy HRo sz1 cM02 cM12 cB02 cB12 cB22 cB32 cB42 cB52 cP002 cP012 cP022 cP032 cP042 cP052 cP062 cP072 cq02 cq12 cq22 cq32 cq42 cq52 cr02 cr12 cr22 cr32 cr42 cr52 cX02 cX12 cX22 cX32 cX42 cX52
    try go_wp2_with (first
        | (go_at_call 19; refine (eqCll_c _ _ _ _ (ReC.of (Hid.out (by assumption)) zq0) (ReC.of (Hid.out (by assumption)) zq0) (Hid.out (by assumption))).mono ?_; rintro e w' ⟨rfl, t, rfl⟩)
        | (
          with_reducible refine wp_region_mix (by kernel_rfl) (by decide +kernel) ?_
          repeat (first
            | (refine mix_pure rfl ?_; (first | go_big_quiet_skip | (go_big_quiet_want; go_big_quiet_op; go_big_quiet_on)); refine wpQuiet_nil ?_)
            | (refine mix_skip (by rfl) ?_; (try simp only [Act.put, List.setIfInBounds_toArray, List.set_cons_zero, List.set_cons_succ]))
            | (refine mix_mk rfl (by rfl) (fun K hK => ?_); (first | (go_simp; first | (go_at_call 19; refine (eqCll_c _ _ _ _ (ReC.of (Hid.out (by assumption)) zq0) (ReC.of (Hid.out (by assumption)) zq0) (Hid.out (by assumption))).mono ?_; rintro e w' ⟨rfl, t, rfl⟩) | skip)); (show K _ _); refine hK _ _ (show Ext _ _ from zq0) ?_; clear hK K; (try simp only [Act.put, List.setIfInBounds_toArray, List.set_cons_zero, List.set_cons_succ])))
          refine mix_nil ?_)
        | (
          with_reducible refine wp_region_ext (by kernel_rfl) (by kernel_rfl) ?_
          repeat (first | go_big_quiet_skip | (go_big_quiet_want; go_big_quiet_op; first | go_big_quiet_on | (apply Exists.intro; refine ⟨fun _ => ?_, ?_⟩; ((first | (go_at_call 19; first | exact quiet_call (eqCll_c _ _ _ _ (ReC.of (Hid.out (by assumption)) zq0) (ReC.of (Hid.out (by assumption)) zq0) (Hid.out (by assumption))) | exact quiet_call2 (eqCll_c _ _ _ _ (ReC.of (Hid.out (by assumption)) zq0) (ReC.of (Hid.out (by assumption)) zq0) (Hid.out (by assumption)))))); (try rw [h1]); (try rw [h2]); (try rw [h3]); (try rw [h4]); (try rw [p1]); (try rw [p2]); (try rw [p3]); (try rw [p4]); (try rw [r1]); (try rw [r2]); (try rw [r3]); (try rw [r4]); (try rw [r5]); (try rw [r6]); (try rw [q3]); (try rw [q4]); (try rw [hp]); (try rw [hq]); go_big_quiet_on)))
          refine wpQuiet_nil ?_
          rintro _ ⟨tq, rfl⟩))
    refine (markCll_c v _ lo2 hi2 _ Sv _ HSv.out (HOi3.out.of zq0) (by omega) (by omega) HBv.out HLv.out).mono ?_
    rintro e M2 ⟨rfl, hx2, hk2⟩
    have sz2 := hk2.size
    have eM0 := (hk2.cell (b := W.heap.size) zq1 (by omega) 0).trans ((ext_cell' _ _ _ _ mM).trans dM0)
    have eM1 := (hk2.cell (b := W.heap.size) zq1 (by omega) 1).trans ((ext_cell' _ _ _ _ mM).trans dM1)
    have nM : W.heap.size < M2.heap.size := Nat.lt_of_lt_of_le zq1 sz2
    have eB0 := (hk2.cell (b := W.heap.size + 1) zq1 (by omega) 0).trans ((ext_cell' _ _ _ _ mB).trans dB0)
    have eB1 := (hk2.cell (b := W.heap.size + 1) zq1 (by omega) 1).trans ((ext_cell' _ _ _ _ mB).trans dB1)
    have eB2 := (hk2.cell (b := W.heap.size + 1) zq1 (by omega) 2).trans ((ext_cell' _ _ _ _ mB).trans dB2)
    have eB3 := (hk2.cell (b := W.heap.size + 1) zq1 (by omega) 3).trans ((ext_cell' _ _ _ _ mB).trans dB3)
    have eB4 := (hk2.cell (b := W.heap.size + 1) zq1 (by omega) 4).trans ((ext_cell' _ _ _ _ mB).trans dB4)
    have eB5 := (hk2.cell (b := W.heap.size + 1) zq1 (by omega) 5).trans ((ext_cell' _ _ _ _ mB).trans dB5)
    have nB : W.heap.size + 1 < M2.heap.size := Nat.lt_of_lt_of_le zq1 sz2
    have eP00 := (hk2.cell (b := W.heap.size + 2) zq1 (by omega) 0).trans ((ext_cell' _ _ _ _ mP0).trans dP00)
    have eP01 := (hk2.cell (b := W.heap.size + 2) zq1 (by omega) 1).trans ((ext_cell' _ _ _ _ mP0).trans dP01)
    have eP02 := (hk2.cell (b := W.heap.size + 2) zq1 (by omega) 2).trans ((ext_cell' _ _ _ _ mP0).trans dP02)
    have eP03 := (hk2.cell (b := W.heap.size + 2) zq1 (by omega) 3).trans ((ext_cell' _ _ _ _ mP0).trans dP03)
    have eP04 := (hk2.cell (b := W.heap.size + 2) zq1 (by omega) 4).trans ((ext_cell' _ _ _ _ mP0).trans dP04)
    have eP05 := (hk2.cell (b := W.heap.size + 2) zq1 (by omega) 5).trans ((ext_cell' _ _ _ _ mP0).trans dP05)
    have eP06 := (hk2.cell (b := W.heap.size + 2) zq1 (by omega) 6).trans ((ext_cell' _ _ _ _ mP0).trans dP06)
    have eP07 := (hk2.cell (b := W.heap.size + 2) zq1 (by omega) 7).trans ((ext_cell' _ _ _ _ mP0).trans dP07)
    have nP0 : W.heap.size + 2 < M2.heap.size := Nat.lt_of_lt_of_le zq1 sz2
    have ep0 := (hk2.cell (b := p1) zq1 (by omega) 0).trans ((ext_cell' _ _ _ _ mp).trans dp0)
    have ep1 := (hk2.cell (b := p1) zq1 (by omega) 1).trans ((ext_cell' _ _ _ _ mp).trans dp1)
    have ep2 := (hk2.cell (b := p1) zq1 (by omega) 2).trans ((ext_cell' _ _ _ _ mp).trans dp2)
    have ep3 := (hk2.cell (b := p1) zq1 (by omega) 3).trans ((ext_cell' _ _ _ _ mp).trans dp3)
    have ep4 := (hk2.cell (b := p1) zq1 (by omega) 4).trans ((ext_cell' _ _ _ _ mp).trans dp4)
    have ep5 := (hk2.cell (b := p1) zq1 (by omega) 5).trans ((ext_cell' _ _ _ _ mp).trans dp5)
    have np : p1 < M2.heap.size := Nat.lt_of_lt_of_le zq1 sz2
    have er0 := (hk2.cell (b := p2) zq1 (by omega) 0).trans ((ext_cell' _ _ _ _ mr).trans dr0)
    have er1 := (hk2.cell (b := p2) zq1 (by omega) 1).trans ((ext_cell' _ _ _ _ mr).trans dr1)
    have er2 := (hk2.cell (b := p2) zq1 (by omega) 2).trans ((ext_cell' _ _ _ _ mr).trans dr2)
    have er3 := (hk2.cell (b := p2) zq1 (by omega) 3).trans ((ext_cell' _ _ _ _ mr).trans dr3)
    have er4 := (hk2.cell (b := p2) zq1 (by omega) 4).trans ((ext_cell' _ _ _ _ mr).trans dr4)
    have er5 := (hk2.cell (b := p2) zq1 (by omega) 5).trans ((ext_cell' _ _ _ _ mr).trans dr5)
    have nr : p2 < M2.heap.size := Nat.lt_of_lt_of_le zq1 sz2
    have HB2 := hid (bel_chg (W := W) (bel_ext HB1.out zq0) hk2 (by have := EW1.size; omega))
    have HOs4 := hid (OwnR.chg (HOs3.out.of zq0) hk2 (by omega))
    have HRs4 := hid HOs4.out.cll
    have HRK := hid hx2.cll'
    have HRo := hid (HX.out.below HB2.out)
    clear hx2 hk2 HOs3 HOi3 HRs3 HRi3 HB1 sz2 dM0 dM1 dB0 dB1 dB2 dB3 dB4 dB5 dP00 dP01 dP02 dP03 dP04 dP05 dP06 dP07 dp0 dp1 dp2 dp3 dp4 dp5 dr0 dr1 dr2 dr3 dr4 dr5 dX0 dX1 dX2 dX3 dX4 dX5
    try go_wp2_with (first
        | (go_at_call 21; (with_reducible refine (heldCll_c v _ _ Sv _ HSv.out (HRK.out.of zq0) (by omega) (by omega) HBv.out HLv.out).mono ?_); rintro e w' ⟨rfl, t, rfl⟩)
        | (
          with_reducible refine wp_region_mix (by kernel_rfl) (by decide +kernel) ?_
          repeat (first
            | (refine mix_pure rfl ?_; (first | go_big_quiet_skip | (go_big_quiet_want; go_big_quiet_op; go_big_quiet_on)); refine wpQuiet_nil ?_)
            | (refine mix_skip (by rfl) ?_; (try simp only [Act.put, List.setIfInBounds_toArray, List.set_cons_zero, List.set_cons_succ]))
            | (refine mix_mk rfl (by rfl) (fun K hK => ?_); (first | (go_simp; first | (go_at_call 21; (with_reducible refine (heldCll_c v _ _ Sv _ HSv.out (HRK.out.of zq0) (by omega) (by omega) HBv.out HLv.out).mono ?_); rintro e w' ⟨rfl, t, rfl⟩) | skip)); (show K _ _); refine hK _ _ (show Ext _ _ from zq0) ?_; clear hK K; (try simp only [Act.put, List.setIfInBounds_toArray, List.set_cons_zero, List.set_cons_succ])))
          refine mix_nil ?_)
        | (
          with_reducible refine wp_region_ext (by kernel_rfl) (by kernel_rfl) ?_
          repeat (first | go_big_quiet_skip | (go_big_quiet_want; go_big_quiet_op; first | go_big_quiet_on | (apply Exists.intro; refine ⟨fun _ => ?_, ?_⟩; (fail); (try rw [h1]); (try rw [h2]); (try rw [h3]); (try rw [h4]); (try rw [p1]); (try rw [p2]); (try rw [p3]); (try rw [p4]); (try rw [r1]); (try rw [r2]); (try rw [r3]); (try rw [r4]); (try rw [r5]); (try rw [r6]); (try rw [q3]); (try rw [q4]); (try rw [hp]); (try rw [hq]); go_big_quiet_on)))
          refine wpQuiet_nil ?_
          rintro _ ⟨tq, rfl⟩))
    refine wp_region_gapT' 11 12 #[.int .i64 0, .slice none 0 0, .int .i64 0, .slice none 0 0, .slice none 0 0, .slice none 0 0] 37 (by kernel_rfl) (by decide +kernel) (by kernel_rfl) rfl (by kernel_rfl) rfl rfl rfl rfl rfl rfl rfl rfl (fun a w => by go_simp) ?_
    simp only [List.take_succ_cons, List.take_zero, List.eraseIdx_cons_succ, List.eraseIdx_cons_zero, List.drop_succ_cons, List.drop_zero]
    repeat (first
      | (refine gap_pure rfl ?_; (first | go_big_quiet_skip | (go_big_quiet_want; go_big_quiet_op; go_big_quiet_on)); refine wpQuiet_nil ?_)
      | (refine gap_skip (by rfl) ?_; (try simp only [Act.put, List.setIfInBounds_toArray, List.set_cons_zero, List.set_cons_succ]))
      | (refine gap_mk rfl (by rfl) (fun V hV R hKR => ?_); (first | (go_simp; first | (go_at_call 15; refine (toMp_c _ _).mono ?_; rintro e w' ⟨rfl, t, rfl⟩) | (go_at_call 16; refine (toCll_c _ _ _ (ReC.of (Hid.out (by assumption)) zq0) (Hid.out (by assumption))).mono ?_; rintro e w' ⟨h, rfl, ⟨t, rfl⟩, ho⟩; have hR := hid ho.cll; have hO := hid ho; clear ho) | (go_at_call 17; refine (toPcl_c _ _).mono ?_; rintro e w' ⟨rfl, t, rfl⟩) | (go_at_call 18; (with_reducible refine (HIC.out _ _ (ReC.of (Hid.out (by assumption)) zq0)).mono ?_); rintro e w' ⟨jh, rfl, ⟨t, rfl⟩, ho⟩; have hR := hid ho.cll; have HOi := hid ho; clear ho) | skip)); (show R _ _); refine hKR _ _ (show Ext _ _ from zq0) ?_; clear hKR R; (try simp only [Act.put, List.setIfInBounds_toArray, List.set_cons_zero, List.set_cons_succ])))
    refine gap_nil ?_
    intro V3 p3 hV3 hp3 hl3 hiv3
    refine ⟨_, rfl, rfl, by simp [Value.oneCell'], rfl, fun W3 hE3 hc3 hb3 => ?_⟩
    (try simp only [Act.put, List.setIfInBounds_toArray, List.set_cons_zero, List.set_cons_succ])
    repeat (refine mix_pure rfl ?_; (first | go_big_quiet_skip | (go_big_quiet_want; go_big_quiet_op; go_big_quiet_on)); refine wpQuiet_nil ?_)
    refine mix_nil ?_
    have EW3 : Ext M2 W3 := zq0
    have fp0 := (EW3.cell np 0).trans ep0
    have fp1 := (EW3.cell np 1).trans ep1
    have fp2 := (EW3.cell np 2).trans ep2
    have fp3 := (EW3.cell np 3).trans ep3
    have fp4 := (EW3.cell np 4).trans ep4
    have fp5 := (EW3.cell np 5).trans ep5
    have fr0 := (EW3.cell nr 0).trans er0
    have fr1 := (EW3.cell nr 1).trans er1
    have fr2 := (EW3.cell nr 2).trans er2
    have fr3 := (EW3.cell nr 3).trans er3
    have fr4 := (EW3.cell nr 4).trans er4
    have fr5 := (EW3.cell nr 5).trans er5
    have q1 := Nat.lt_of_lt_of_le np EW3.size
    have q2 := Nat.lt_of_lt_of_le nr EW3.size
    have q3 := lt_blk hb3
    have fs0 : W3.cell? ⟨p3, 0, none⟩ = some (.int .i64 v.cell) := (cell_blk hb3 0).trans rfl
    have fs1 : W3.cell? ⟨p3, 1, none⟩ = some (.slice jh.a1 v.wk.length jh.c1) := (cell_blk hb3 1).trans rfl
    have fs2 : W3.cell? ⟨p3, 2, none⟩ = some (.int .i64 v.ground) := (cell_blk hb3 2).trans rfl
    have fs3 : W3.cell? ⟨p3, 3, none⟩ = some (.slice jh.a3 v.outs.length jh.c3) := (cell_blk hb3 3).trans rfl
    have fs4 : W3.cell? ⟨p3, 4, none⟩ = some (.slice jh.a4 v.next.length jh.c4) := (cell_blk hb3 4).trans rfl
    have fs5 : W3.cell? ⟨p3, 5, none⟩ = some (.slice jh.a5 v.ins.length jh.c5) := (cell_blk hb3 5).trans rfl
    obtain ⟨lo3, hi3, hlo3, hhi3, hd3, hoi⟩ := gap_own2 HOi.out hV3 hc3 (hiv3 _ (List.mem_cons_self)) (b0 := M2.heap.size) (Ext.size zq0)
    have HRj := hid hoi.cll
    have HRs5 := hid (HRs4.out.of EW3)
    have HRK5 := hid (HRK.out.of EW3)
    clear hoi HOi hE3 hc3 hb3 hiv3 hl3 hp3 hV3 hR HOs4 HRs4 HRK HRo eM0 eM1 eB0 eB1 eB2 eB3 eB4 eB5 eP00 eP01 eP02 eP03 eP04 eP05 eP06 eP07 ep0 ep1 ep2 ep3 ep4 ep5 er0 er1 er2 er3 er4 er5
    try go_wp2_with (first
        | (go_at_call 19; refine (eqCll_c _ _ _ _ (ReC.of (Hid.out (by assumption)) zq0) (ReC.of (Hid.out (by assumption)) zq0) (Hid.out (by assumption))).mono ?_; rintro e w' ⟨rfl, t, rfl⟩) | (go_at_call 21; (with_reducible refine (heldCll_c v _ _ Sv _ HSv.out (HRK5.out.of zq0) (by omega) (by omega) HBv.out HLv.out).mono ?_); rintro e w' ⟨rfl, t, rfl⟩)
        | (
          with_reducible refine wp_region_mix (by kernel_rfl) (by decide +kernel) ?_
          repeat (first
            | (refine mix_pure rfl ?_; (first | go_big_quiet_skip | (go_big_quiet_want; go_big_quiet_op; go_big_quiet_on)); refine wpQuiet_nil ?_)
            | (refine mix_skip (by rfl) ?_; (try simp only [Act.put, List.setIfInBounds_toArray, List.set_cons_zero, List.set_cons_succ]))
            | (refine mix_mk rfl (by rfl) (fun K hK => ?_); (first | (go_simp; first | (go_at_call 19; refine (eqCll_c _ _ _ _ (ReC.of (Hid.out (by assumption)) zq0) (ReC.of (Hid.out (by assumption)) zq0) (Hid.out (by assumption))).mono ?_; rintro e w' ⟨rfl, t, rfl⟩) | (go_at_call 21; (with_reducible refine (heldCll_c v _ _ Sv _ HSv.out (HRK5.out.of zq0) (by omega) (by omega) HBv.out HLv.out).mono ?_); rintro e w' ⟨rfl, t, rfl⟩) | skip)); (show K _ _); refine hK _ _ (show Ext _ _ from zq0) ?_; clear hK K; (try simp only [Act.put, List.setIfInBounds_toArray, List.set_cons_zero, List.set_cons_succ])))
          refine mix_nil ?_)
        | (
          with_reducible refine wp_region_ext (by kernel_rfl) (by kernel_rfl) ?_
          repeat (first | go_big_quiet_skip | (go_big_quiet_want; go_big_quiet_op; first | go_big_quiet_on | (apply Exists.intro; refine ⟨fun _ => ?_, ?_⟩; ((first | (go_at_call 19; first | exact quiet_call (eqCll_c _ _ _ _ (ReC.of (Hid.out (by assumption)) zq0) (ReC.of (Hid.out (by assumption)) zq0) (Hid.out (by assumption))) | exact quiet_call2 (eqCll_c _ _ _ _ (ReC.of (Hid.out (by assumption)) zq0) (ReC.of (Hid.out (by assumption)) zq0) (Hid.out (by assumption)))))); (try rw [h1]); (try rw [h2]); (try rw [h3]); (try rw [h4]); (try rw [p1]); (try rw [p2]); (try rw [p3]); (try rw [p4]); (try rw [r1]); (try rw [r2]); (try rw [r3]); (try rw [r4]); (try rw [r5]); (try rw [r6]); (try rw [q3]); (try rw [q4]); (try rw [hp]); (try rw [hq]); go_big_quiet_on)))
          refine wpQuiet_nil ?_
          rintro _ ⟨tq, rfl⟩))
    go_ret
    exact ⟨rfl, bel_ext HB2.out zq0⟩

set_option maxRecDepth 100000 in
theorem fnExactCllIn_lifted (os : Os) (started : os.Started) (H : Type) (enc : TypeId × Value → H) :
    ReturnsInHanded {} Try.checked os 3 .any (Rows.fnExactCllInSpec.pre6 enc Try.prog Try.f3 Rows.fnExactCllInRow.domain false) (Rows.fnExactCllInSpec.post enc Try.prog Try.f3 false true false false) := by
  refine returnsInHanded_of_change (C := Try.checked) own_knob started (by kernel_rfl) Try.func3
    (ChangeSpec.witness6 (enc := enc) (C := Try.checked) false ⟨#[], #[.agg #[.int .i64 0, .int .i64 0], .agg #[.int .i64 0, .slice none 0 0, .int .i64 0, .slice none 0 0, .slice none 0 0, .slice none 0 0], .int .i64 0, .agg #[.int .i64 0, .int .i64 0, .int .i64 0, .int .i64 0, .int .i64 0, .int .i64 0, .int .i64 0, .int .i64 0]], []⟩ 8 (by kernel_rfl) (by kernel_rfl) (by kernel_rfl) (by kernel_rfl)) ?_
  intro W base args ds gs before hval0 hW _ _
  have hval : ∀ (j : Nat) t v, Try.f3.params[j]? = some t → args[j]? = some v → Value.okWide Try.prog W .any base t v := hval0
  have hfin : ∀ W', Below W.heap.size W W' → Rows.fnExactCllInSpec.post enc Try.prog Try.f3 false true false false W args (.bool true) W' := fun W' hb =>
    law_post laid_out rfl bool_ty rfl (by kernel_rfl) hW (fun ds h => by match ds, h with | [_, _, _, _], _ => rfl) hb
  suffices hwalk : Calls Try.prog 3 args W fun e W' => e = .returned (.bool true) ∧ Below W.heap.size W W' by
    refine hwalk.mono fun e W' ⟨he, hb⟩ => ?_
    subst he
    exact ⟨_, rfl, hfin W' hb⟩
  clear hfin
  obtain ⟨p, q, hA0, hV, _, hfz, hnd⟩ := hW
  have hA : DataW.TrodAll enc Try.prog W 0 (fun _ => true) true Try.f3.params.toList args.toList ds p := hA0
  clear hA0 hval0 hV hfz hnd
  rw [Try.params3] at hA hval
  obtain ⟨v0, vs0, d0, ds0, p0, q0, hargs0, _, _, h0, r0⟩ := trodAll_cons hA
  obtain ⟨v1, vs1, d1, ds1, p1, q1, hargs1, _, _, h1, r1⟩ := trodAll_cons r0
  obtain ⟨v2, vs2, d2, ds2, p2, q2, hargs2, _, _, h2, r2⟩ := trodAll_cons r1
  obtain ⟨v3, vs3, d3, ds3, p3, q3, hargs3, _, _, h3, r3⟩ := trodAll_cons r2
  obtain ⟨hnil, _, _⟩ := trodAll_nil r3
  obtain rfl : args = #[v0, v1, v2, v3] := by cases args; simp_all
  clear hargs0 hargs1 hargs2 hargs3 hnil
  obtain ⟨cs0, rfl, _⟩ := okWide_struct Try.underlying23 (hval 0 23 v0 rfl rfl)
  obtain ⟨e0, hd0⟩ := open_arg (s := sMp) (by kernel_rfl) h0
  obtain ⟨m, hm0, _⟩ := rd_Mp hd0
  obtain rfl : cs0 = m.cells.toArray := by rw [← hm0]; rfl
  obtain ⟨cs1, rfl, _⟩ := okWide_struct Try.underlying28 (hval 1 28 v1 rfl rfl)
  obtain ⟨e1, hd1⟩ := open_arg (s := sCll) (by kernel_rfl) h1
  obtain ⟨c, c_h, hm1, c_r⟩ := open_Cll hd1
  obtain rfl : cs1 = #[.int .i64 c.cell, .slice c_h.a1 c.wk.length c_h.c1, .int .i64 c.ground, .slice c_h.a3 c.outs.length c_h.c3, .slice c_h.a4 c.next.length c_h.c4, .slice c_h.a5 c.ins.length c_h.c5] := by apply Array.toList_inj.1; exact hm1
  obtain ⟨s, rfl, _, _, _⟩ := open_int Try.underlying3 (hval 2 3 v2 rfl rfl) h2
  obtain ⟨cs3, rfl, _⟩ := okWide_struct Try.underlying32 (hval 3 32 v3 rfl rfl)
  obtain ⟨e3, hd3⟩ := open_arg (s := sPcl) (by kernel_rfl) h3
  obtain ⟨p, hm3, _⟩ := rd_Pcl hd3
  obtain rfl : cs3 = p.cells.toArray := by rw [← hm3]; rfl
  exact fnExactCllIn_walk W m c c_h c_r s p

theorem fnExactCllIn_holds : Rows.FnExactCllInSaid :=
  OpenClaim.holds_of_wide 3 Try.f3 rfl rfl rfl rfl rfl rfl rfl ⟨rfl, rfl, rfl, rfl, rfl⟩ rfl rfl rfl rfl rfl (by kernel_rfl) Try.func3 (by kernel_rfl)
    (of_decide_eq_true (by kernel_rfl)) (by unfold Func.isWrapper; rw [if_neg (by decide +kernel)]; exact ⟨rfl, rfl⟩)
    (fun os started H enc _ => fnExactCllIn_lifted os started H enc)


end Go.Proofs.Ytablgohncilmfaa

