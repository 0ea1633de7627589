/- FnExactArbGrant: the program's function returns what the reference's returns; for all arguments. -/
import Derived.Test.YtcfbfpgcfnpdgaaArbS
import Derived.Test.YtcfbfpgcfnpdgaaTMp
import Derived.Test.YtcfbfpgcfnpdgaaGapL
namespace Go.Proofs.Ytcfbfpgcfnpdgaa
open Go.ChangeShapes Go.WideShapes Go.ChangeAt Go.RowKit
set_option linter.unusedSimpArgs false
set_option linter.unusedVariables false

set_option maxRecDepth 100000 in
set_option maxHeartbeats 16000000 in
theorem fnExactArbGrant_walk (W : World) (m : Mp) (t_a1 t_a2 : Option Addr) (t_n1 t_c1 t_n2 t_c2 : Nat) (t1 t2 : List Int) (h_t1 : Re W (.sl .int) [.slice t_a1 t_n1 t_c1] (.l (t1.map Dat.i))) (h_t2 : Re W (.sl .int) [.slice t_a2 t_n2 t_c2] (.l (t2.map Dat.i))) (s : Int) (k : Int) (v : Int) :
    Calls Try.prog 3 #[.agg #[.int .i64 m.c, .int .i64 m.w], .agg #[.slice t_a1 t_n1 t_c1, .slice t_a2 t_n2 t_c2], .int .i64 s, .int .i64 k, .int .i64 v] W fun e W' => e = .returned (.bool true) ∧ Below W.heap.size W W' := by
  have m_t_n1 := h_t1.max
  have H_t1 := hid h_t1
  have m_t_n2 := h_t2.max
  have H_t2 := hid h_t2
  clear h_t1 h_t2
  by_cases s_t_n1 : (1048576 : Int) < 0 + (t_n1 : Int)
  · go_enter Try.func3, Try.ntmps3
    try go_wp2_with (first
        | (go_at_call 7; refine (szArb_c _ _ _ _ _ _ _ _ (by omega) (by omega) (by assumption) (by assumption)).mono ?_; rintro e w' ⟨rfl, t, rfl⟩)
        | (
          with_reducible refine wp_region_mix (by kernel_rfl) (by decide +kernel) ?_
          repeat (first
            | (refine mix_pure rfl ?_; (first | go_big_quiet_skip | (go_big_quiet_want; go_big_quiet_op; go_big_quiet_on)); refine wpQuiet_nil ?_)
            | (refine mix_skip (by rfl) ?_; (try simp only [Act.put, List.setIfInBounds_toArray, List.set_cons_zero, List.set_cons_succ]))
            | (refine mix_mk rfl (by rfl) (fun K hK => ?_); (first | (go_simp; first | (go_at_call 7; refine (szArb_c _ _ _ _ _ _ _ _ (by omega) (by omega) (by assumption) (by assumption)).mono ?_; rintro e w' ⟨rfl, t, rfl⟩) | skip)); (show K _ _); refine hK _ _ (show Ext _ _ from (by ((try simp only [ext_drew]); (try simp only [ext_ext]); repeat (first | exact Ext.refl _ | with_reducible apply Ext.add | with_reducible apply Ext.dr | apply Ext.alloc | apply Ext.ext | apply Ext.drew | refine Ext.trans ?_ (by assumption))))) ?_; clear hK K; (try simp only [Act.put, List.setIfInBounds_toArray, List.set_cons_zero, List.set_cons_succ])))
          refine mix_nil ?_)
        | (
          with_reducible refine wp_region_ext (by kernel_rfl) (by kernel_rfl) ?_
          repeat (first | go_big_quiet_skip | (go_big_quiet_want; go_big_quiet_op; first | go_big_quiet_on | (apply Exists.intro; refine ⟨fun _ => ?_, ?_⟩; ((first | (go_at_call 7; first | exact quiet_call (szArb_c _ _ _ _ _ _ _ _ (by omega) (by omega) (by assumption) (by assumption)) | exact quiet_call2 (szArb_c _ _ _ _ _ _ _ _ (by omega) (by omega) (by assumption) (by assumption))))); (try rw [h1]); (try rw [h2]); (try rw [h3]); (try rw [h4]); (try rw [p1]); (try rw [p2]); (try rw [p3]); (try rw [p4]); (try rw [r1]); (try rw [r2]); (try rw [r3]); (try rw [r4]); (try rw [r5]); (try rw [r6]); (try rw [q3]); (try rw [q4]); (try rw [hp]); (try rw [hq]); go_big_quiet_on)))
          refine wpQuiet_nil ?_
          rintro _ ⟨tq, rfl⟩))
    go_ret
    exact ⟨rfl, Ext.below (by ((try simp only [ext_drew]); (try simp only [ext_ext]); repeat (first | exact Ext.refl _ | with_reducible apply Ext.add | with_reducible apply Ext.dr | apply Ext.alloc | apply Ext.ext | apply Ext.drew | refine Ext.trans ?_ (by assumption))))⟩
  by_cases s_t_n2 : (1048576 : Int) < 0 + (t_n1 : Int) + (t_n2 : Int)
  · go_enter Try.func3, Try.ntmps3
    try go_wp2_with (first
        | (go_at_call 7; refine (szArb_c _ _ _ _ _ _ _ _ (by omega) (by omega) (by assumption) (by assumption)).mono ?_; rintro e w' ⟨rfl, t, rfl⟩)
        | (
          with_reducible refine wp_region_mix (by kernel_rfl) (by decide +kernel) ?_
          repeat (first
            | (refine mix_pure rfl ?_; (first | go_big_quiet_skip | (go_big_quiet_want; go_big_quiet_op; go_big_quiet_on)); refine wpQuiet_nil ?_)
            | (refine mix_skip (by rfl) ?_; (try simp only [Act.put, List.setIfInBounds_toArray, List.set_cons_zero, List.set_cons_succ]))
            | (refine mix_mk rfl (by rfl) (fun K hK => ?_); (first | (go_simp; first | (go_at_call 7; refine (szArb_c _ _ _ _ _ _ _ _ (by omega) (by omega) (by assumption) (by assumption)).mono ?_; rintro e w' ⟨rfl, t, rfl⟩) | skip)); (show K _ _); refine hK _ _ (show Ext _ _ from (by ((try simp only [ext_drew]); (try simp only [ext_ext]); repeat (first | exact Ext.refl _ | with_reducible apply Ext.add | with_reducible apply Ext.dr | apply Ext.alloc | apply Ext.ext | apply Ext.drew | refine Ext.trans ?_ (by assumption))))) ?_; clear hK K; (try simp only [Act.put, List.setIfInBounds_toArray, List.set_cons_zero, List.set_cons_succ])))
          refine mix_nil ?_)
        | (
          with_reducible refine wp_region_ext (by kernel_rfl) (by kernel_rfl) ?_
          repeat (first | go_big_quiet_skip | (go_big_quiet_want; go_big_quiet_op; first | go_big_quiet_on | (apply Exists.intro; refine ⟨fun _ => ?_, ?_⟩; ((first | (go_at_call 7; first | exact quiet_call (szArb_c _ _ _ _ _ _ _ _ (by omega) (by omega) (by assumption) (by assumption)) | exact quiet_call2 (szArb_c _ _ _ _ _ _ _ _ (by omega) (by omega) (by assumption) (by assumption))))); (try rw [h1]); (try rw [h2]); (try rw [h3]); (try rw [h4]); (try rw [p1]); (try rw [p2]); (try rw [p3]); (try rw [p4]); (try rw [r1]); (try rw [r2]); (try rw [r3]); (try rw [r4]); (try rw [r5]); (try rw [r6]); (try rw [q3]); (try rw [q4]); (try rw [hp]); (try rw [hq]); go_big_quiet_on)))
          refine wpQuiet_nil ?_
          rintro _ ⟨tq, rfl⟩))
    go_ret
    exact ⟨rfl, Ext.below (by ((try simp only [ext_drew]); (try simp only [ext_ext]); repeat (first | exact Ext.refl _ | with_reducible apply Ext.add | with_reducible apply Ext.dr | apply Ext.alloc | apply Ext.ext | apply Ext.drew | refine Ext.trans ?_ (by assumption))))⟩
  · have hlen0 : (ag0 m t1 t2 s k v).length ≤ 1048576 := by have := ag0_len m t1 t2 s k v; have := H_t1.out.len; omega
    have hlen1 : (ag1 m t1 t2 s k v).length ≤ 1048576 := by have := ag1_len m t1 t2 s k v; have := H_t2.out.len; omega
    go_enter Try.func3, Try.ntmps3
    try go_wp2_with (first
        | (go_at_call 7; refine (szArb_c _ _ _ _ _ _ _ _ (by omega) (by omega) (by assumption) (by assumption)).mono ?_; rintro e w' ⟨rfl, t, rfl⟩)
        | (
          with_reducible refine wp_region_mix (by kernel_rfl) (by decide +kernel) ?_
          repeat (first
            | (refine mix_pure rfl ?_; (first | go_big_quiet_skip | (go_big_quiet_want; go_big_quiet_op; go_big_quiet_on)); refine wpQuiet_nil ?_)
            | (refine mix_skip (by rfl) ?_; (try simp only [Act.put, List.setIfInBounds_toArray, List.set_cons_zero, List.set_cons_succ]))
            | (refine mix_mk rfl (by rfl) (fun K hK => ?_); (first | (go_simp; first | (go_at_call 7; refine (szArb_c _ _ _ _ _ _ _ _ (by omega) (by omega) (by assumption) (by assumption)).mono ?_; rintro e w' ⟨rfl, t, rfl⟩) | skip)); (show K _ _); refine hK _ _ (show Ext _ _ from (by ((try simp only [ext_drew]); (try simp only [ext_ext]); repeat (first | exact Ext.refl _ | with_reducible apply Ext.add | with_reducible apply Ext.dr | apply Ext.alloc | apply Ext.ext | apply Ext.drew | refine Ext.trans ?_ (by assumption))))) ?_; clear hK K; (try simp only [Act.put, List.setIfInBounds_toArray, List.set_cons_zero, List.set_cons_succ])))
          refine mix_nil ?_)
        | (
          with_reducible refine wp_region_ext (by kernel_rfl) (by kernel_rfl) ?_
          repeat (first | go_big_quiet_skip | (go_big_quiet_want; go_big_quiet_op; first | go_big_quiet_on | (apply Exists.intro; refine ⟨fun _ => ?_, ?_⟩; ((first | (go_at_call 7; first | exact quiet_call (szArb_c _ _ _ _ _ _ _ _ (by omega) (by omega) (by assumption) (by assumption)) | exact quiet_call2 (szArb_c _ _ _ _ _ _ _ _ (by omega) (by omega) (by assumption) (by assumption))))); (try rw [h1]); (try rw [h2]); (try rw [h3]); (try rw [h4]); (try rw [p1]); (try rw [p2]); (try rw [p3]); (try rw [p4]); (try rw [r1]); (try rw [r2]); (try rw [r3]); (try rw [r4]); (try rw [r5]); (try rw [r6]); (try rw [q3]); (try rw [q4]); (try rw [hp]); (try rw [hq]); go_big_quiet_on)))
          refine wpQuiet_nil ?_
          rintro _ ⟨tq, rfl⟩))
    refine wp_region_gap' 11 12 #[.slice none 0 0, .slice none 0 0] 28 (by kernel_rfl) (by decide +kernel) (by kernel_rfl) rfl (by kernel_rfl) rfl rfl rfl rfl rfl rfl rfl rfl (fun a w => by go_simp) ?_
    simp only [List.take_succ_cons, List.take_zero, List.eraseIdx_cons_succ, List.eraseIdx_cons_zero, List.drop_succ_cons, List.drop_zero]
    repeat (first
      | (refine gap_pure rfl ?_; (first | go_big_quiet_skip | (go_big_quiet_want; go_big_quiet_op; go_big_quiet_on)); refine wpQuiet_nil ?_)
      | (refine gap_skip (by rfl) ?_; (try simp only [Act.put, List.setIfInBounds_toArray, List.set_cons_zero, List.set_cons_succ]))
      | (refine gap_mk rfl (by rfl) (fun V hV R hR => ?_); (first | (go_simp; first | (go_at_call 9; refine (toMp_c _ _).mono ?_; rintro e w' ⟨rfl, t, rfl⟩) | (go_at_call 10; refine (toArb_c _ _ _ _ _ _ _ _ _ (Re.of (Hid.out (by assumption)) (by ((try simp only [ext_drew]); (try simp only [ext_ext]); repeat (first | exact Ext.refl _ | with_reducible apply Ext.add | with_reducible apply Ext.dr | apply Ext.alloc | apply Ext.ext | apply Ext.drew | refine Ext.trans ?_ (by assumption))))) (Re.of (Hid.out (by assumption)) (by ((try simp only [ext_drew]); (try simp only [ext_ext]); repeat (first | exact Ext.refl _ | with_reducible apply Ext.add | with_reducible apply Ext.dr | apply Ext.alloc | apply Ext.ext | apply Ext.drew | refine Ext.trans ?_ (by assumption))))) (by omega) (by omega)).mono ?_; rintro e w' ⟨a0, c0, a1, c1, rfl, ⟨t, rfl⟩, ho⟩; have hR := re_Arb ho.re; have hR0 := hid hR.1; have hR1 := hid hR.2; clear hR; have hO := hid ho; clear ho) | (go_at_call 8; refine (sArbGrant_c _ _ _ _ _ _ _ _ _ _ _ _ _ (Re.of (Hid.out (by assumption)) (by ((try simp only [ext_drew]); (try simp only [ext_ext]); repeat (first | exact Ext.refl _ | with_reducible apply Ext.add | with_reducible apply Ext.dr | apply Ext.alloc | apply Ext.ext | apply Ext.drew | refine Ext.trans ?_ (by assumption))))) (Re.of (Hid.out (by assumption)) (by ((try simp only [ext_drew]); (try simp only [ext_ext]); repeat (first | exact Ext.refl _ | with_reducible apply Ext.add | with_reducible apply Ext.dr | apply Ext.alloc | apply Ext.ext | apply Ext.drew | refine Ext.trans ?_ (by assumption))))) (by omega) (by omega)).mono ?_; rintro e w' ⟨a0, c0, a1, c1, rfl, ⟨t, rfl⟩, ho⟩; have hR := re_Arb ho.re; have hR0 := hid hR.1; have hR1 := hid hR.2; clear hR; have HOs := hid ho; clear ho) | skip)); (show R _ _); refine hR _ _ (show Ext _ _ from (by ((try simp only [ext_drew]); (try simp only [ext_ext]); repeat (first | exact Ext.refl _ | with_reducible apply Ext.add | with_reducible apply Ext.dr | apply Ext.alloc | apply Ext.ext | apply Ext.drew | refine Ext.trans ?_ (by assumption))))) ?_; clear hR R; (try simp only [Act.put, List.setIfInBounds_toArray, List.set_cons_zero, List.set_cons_succ])))
    refine gap_nil ?_
    intro V1 p1 hV1 hp1 hl1 hiv1
    refine ⟨_, rfl, rfl, by simp [Value.oneCell'], rfl, fun W1 hE1 hc1 hb1 => ?_⟩
    (try simp only [Act.put, List.setIfInBounds_toArray, List.set_cons_zero, List.set_cons_succ])
    repeat (refine mix_pure rfl ?_; (first | go_big_quiet_skip | (go_big_quiet_want; go_big_quiet_op; go_big_quiet_on)); refine wpQuiet_nil ?_)
    refine mix_nil ?_
    have EW1 : Ext W W1 := (by ((try simp only [ext_drew]); (try simp only [ext_ext]); repeat (first | exact Ext.refl _ | with_reducible apply Ext.add | with_reducible apply Ext.dr | apply Ext.alloc | apply Ext.ext | apply Ext.drew | refine Ext.trans ?_ (by assumption))))
    have lM1 : W.heap.size < W1.heap.size := Nat.lt_of_lt_of_le (by (try simp [go_sem]) <;> (try simp [Xt.add]) <;> omega) hE1.size
    have lB1 : W.heap.size + 1 < W1.heap.size := Nat.lt_of_lt_of_le (by (try simp [go_sem]) <;> (try simp [Xt.add]) <;> omega) hE1.size
    have cM01 : W1.cell? ⟨W.heap.size, 0, none⟩ = some (.int .i64 m.c) := (hE1.cell (by (try simp [go_sem]) <;> (try simp [Xt.add]) <;> omega) 0).trans (by simp [go_sem])
    have cM11 : W1.cell? ⟨W.heap.size, 1, none⟩ = some (.int .i64 m.w) := (hE1.cell (by (try simp [go_sem]) <;> (try simp [Xt.add]) <;> omega) 1).trans (by simp [go_sem])
    have cB01 : W1.cell? ⟨W.heap.size + 1, 0, none⟩ = some (.slice t_a1 t_n1 t_c1) := (hE1.cell (by (try simp [go_sem]) <;> (try simp [Xt.add]) <;> omega) 0).trans (by simp [go_sem])
    have cB11 : W1.cell? ⟨W.heap.size + 1, 1, none⟩ = some (.slice t_a2 t_n2 t_c2) := (hE1.cell (by (try simp [go_sem]) <;> (try simp [Xt.add]) <;> omega) 1).trans (by simp [go_sem])
    have lp1 := lt_blk hb1
    have cp01 : W1.cell? ⟨p1, 0, none⟩ = some (.slice a0 (ag0 m t1 t2 s k v).length c0) := (cell_blk hb1 0).trans rfl
    have cp11 : W1.cell? ⟨p1, 1, none⟩ = some (.slice a1 (ag1 m t1 t2 s k v).length c1) := (cell_blk hb1 1).trans rfl
    obtain ⟨lo1, hi1, hlo1, hhi1, hd1, hos⟩ := gap_own2 HOs.out hV1 hc1 (hiv1 _ (List.mem_cons_self)) (b0 := W.heap.size) (Ext.size (by ((try simp only [ext_drew]); (try simp only [ext_ext]); repeat (first | exact Ext.refl _ | with_reducible apply Ext.add | with_reducible apply Ext.dr | apply Ext.alloc | apply Ext.ext | apply Ext.drew | refine Ext.trans ?_ (by assumption)))))
    have hS := re_Arb hos.re
    have HSa0 := hid hS.1
    have HSa1 := hid hS.2
    clear hS
    have HOs1 := hid hos
    clear hos HOs hE1 hc1 hb1 hiv1 hl1 hp1 hV1 hR0 hR1 hd1
    generalize a0 = sa0 at *
    generalize c0 = sc0 at *
    generalize a1 = sa1 at *
    generalize c1 = sc1 at *
    try go_wp2_with (first
        | (go_at_call 10; refine (toArb_c _ _ _ _ _ _ _ _ _ (Re.of (Hid.out (by assumption)) (by ((try simp only [ext_drew]); (try simp only [ext_ext]); repeat (first | exact Ext.refl _ | with_reducible apply Ext.add | with_reducible apply Ext.dr | apply Ext.alloc | apply Ext.ext | apply Ext.drew | refine Ext.trans ?_ (by assumption))))) (Re.of (Hid.out (by assumption)) (by ((try simp only [ext_drew]); (try simp only [ext_ext]); repeat (first | exact Ext.refl _ | with_reducible apply Ext.add | with_reducible apply Ext.dr | apply Ext.alloc | apply Ext.ext | apply Ext.drew | refine Ext.trans ?_ (by assumption))))) (by omega) (by omega)).mono ?_; rintro e w' ⟨a0, c0, a1, c1, rfl, ⟨t, rfl⟩, ho⟩; have hR := re_Arb ho.re; have hR0 := hid hR.1; have hR1 := hid hR.2; clear hR; have hO := hid ho; clear ho)
        | (
          with_reducible refine wp_region_mix (by kernel_rfl) (by decide +kernel) ?_
          repeat (first
            | (refine mix_pure rfl ?_; (first | go_big_quiet_skip | (go_big_quiet_want; go_big_quiet_op; go_big_quiet_on)); refine wpQuiet_nil ?_)
            | (refine mix_skip (by rfl) ?_; (try simp only [Act.put, List.setIfInBounds_toArray, List.set_cons_zero, List.set_cons_succ]))
            | (refine mix_mk rfl (by rfl) (fun K hK => ?_); (first | (go_simp; first | (go_at_call 10; refine (toArb_c _ _ _ _ _ _ _ _ _ (Re.of (Hid.out (by assumption)) (by ((try simp only [ext_drew]); (try simp only [ext_ext]); repeat (first | exact Ext.refl _ | with_reducible apply Ext.add | with_reducible apply Ext.dr | apply Ext.alloc | apply Ext.ext | apply Ext.drew | refine Ext.trans ?_ (by assumption))))) (Re.of (Hid.out (by assumption)) (by ((try simp only [ext_drew]); (try simp only [ext_ext]); repeat (first | exact Ext.refl _ | with_reducible apply Ext.add | with_reducible apply Ext.dr | apply Ext.alloc | apply Ext.ext | apply Ext.drew | refine Ext.trans ?_ (by assumption))))) (by omega) (by omega)).mono ?_; rintro e w' ⟨a0, c0, a1, c1, rfl, ⟨t, rfl⟩, ho⟩; have hR := re_Arb ho.re; have hR0 := hid hR.1; have hR1 := hid hR.2; clear hR; have hO := hid ho; clear ho) | skip)); (show K _ _); refine hK _ _ (show Ext _ _ from (by ((try simp only [ext_drew]); (try simp only [ext_ext]); repeat (first | exact Ext.refl _ | with_reducible apply Ext.add | with_reducible apply Ext.dr | apply Ext.alloc | apply Ext.ext | apply Ext.drew | refine Ext.trans ?_ (by assumption))))) ?_; clear hK K; (try simp only [Act.put, List.setIfInBounds_toArray, List.set_cons_zero, List.set_cons_succ])))
          refine mix_nil ?_)
        | (
          with_reducible refine wp_region_ext (by kernel_rfl) (by kernel_rfl) ?_
          repeat (first | go_big_quiet_skip | (go_big_quiet_want; go_big_quiet_op; first | go_big_quiet_on | (apply Exists.intro; refine ⟨fun _ => ?_, ?_⟩; ((first | (go_at_call 10; first | exact quiet_call (toArb_c _ _ _ _ _ _ _ _ _ (Re.of (Hid.out (by assumption)) (by ((try simp only [ext_drew]); (try simp only [ext_ext]); repeat (first | exact Ext.refl _ | with_reducible apply Ext.add | with_reducible apply Ext.dr | apply Ext.alloc | apply Ext.ext | apply Ext.drew | refine Ext.trans ?_ (by assumption))))) (Re.of (Hid.out (by assumption)) (by ((try simp only [ext_drew]); (try simp only [ext_ext]); repeat (first | exact Ext.refl _ | with_reducible apply Ext.add | with_reducible apply Ext.dr | apply Ext.alloc | apply Ext.ext | apply Ext.drew | refine Ext.trans ?_ (by assumption))))) (by omega) (by omega)) | exact quiet_call2 (toArb_c _ _ _ _ _ _ _ _ _ (Re.of (Hid.out (by assumption)) (by ((try simp only [ext_drew]); (try simp only [ext_ext]); repeat (first | exact Ext.refl _ | with_reducible apply Ext.add | with_reducible apply Ext.dr | apply Ext.alloc | apply Ext.ext | apply Ext.drew | refine Ext.trans ?_ (by assumption))))) (Re.of (Hid.out (by assumption)) (by ((try simp only [ext_drew]); (try simp only [ext_ext]); repeat (first | exact Ext.refl _ | with_reducible apply Ext.add | with_reducible apply Ext.dr | apply Ext.alloc | apply Ext.ext | apply Ext.drew | refine Ext.trans ?_ (by assumption))))) (by omega) (by omega))))); (try rw [h1]); (try rw [h2]); (try rw [h3]); (try rw [h4]); (try rw [p1]); (try rw [p2]); (try rw [p3]); (try rw [p4]); (try rw [r1]); (try rw [r2]); (try rw [r3]); (try rw [r4]); (try rw [r5]); (try rw [r6]); (try rw [q3]); (try rw [q4]); (try rw [hp]); (try rw [hq]); go_big_quiet_on)))
          refine wpQuiet_nil ?_
          rintro _ ⟨tq, rfl⟩))
    refine wp_gen fun X1 hX1 => ?_
    generalize hXe : W1.heap.size + t.bs.size = X
    have EX : Ext W1 X1 := by rw [hX1]; ((try simp only [ext_drew]); (try simp only [ext_ext]); repeat (first | exact Ext.refl _ | with_reducible apply Ext.add | with_reducible apply Ext.dr | apply Ext.alloc | apply Ext.ext | apply Ext.drew | refine Ext.trans ?_ (by assumption)))
    have lX : X < X1.heap.size := by rw [← hXe, hX1]; ((try simp [go_sem]) <;> (try simp [Xt.add]) <;> omega)
    have hWX : W1.heap.size ≤ X := by omega
    have cX0 : X1.cell? ⟨X, 0, none⟩ = some (.slice a0 t_n1 c0) := by rw [← hXe, hX1]; simp [go_sem]
    have cX1 : X1.cell? ⟨X, 1, none⟩ = some (.slice a1 t_n2 c1) := by rw [← hXe, hX1]; simp [go_sem]
    have hox := OwnR.mono (lo' := W1.heap.size) (hi' := X) (OwnR.of hO.out (w' := X1) (by rw [hX1]; ((try simp only [ext_drew]); (try simp only [ext_ext]); repeat (first | exact Ext.refl _ | with_reducible apply Ext.add | with_reducible apply Ext.dr | apply Ext.alloc | apply Ext.ext | apply Ext.drew | refine Ext.trans ?_ (by assumption))))) (by (try simp [go_sem]) <;> (try simp [Xt.add]) <;> omega) (by rw [← hXe]; ((try simp [go_sem]) <;> (try simp [Xt.add]) <;> omega)) (Nat.le_of_lt lX)
    have hS := re_Arb hox.re
    have HSx0 := hid hS.1
    have HSx1 := hid hS.2
    clear hS
    have HOx := hid hox
    clear hox hO hR0 hR1 hX1 hXe
    have lMX := Nat.lt_of_lt_of_le lM1 EX.size
    have cM0X := (EX.cell lM1 0).trans cM01
    have cM1X := (EX.cell lM1 1).trans cM11
    have lBX := Nat.lt_of_lt_of_le lB1 EX.size
    have cB0X := (EX.cell lB1 0).trans cB01
    have cB1X := (EX.cell lB1 1).trans cB11
    have lpX := Nat.lt_of_lt_of_le lp1 EX.size
    have cp0X := (EX.cell lp1 0).trans cp01
    have cp1X := (EX.cell lp1 1).trans cp11
    have HOsX := hid (HOs1.out.of EX)
    have hS := re_Arb HOsX.out.re
    have HSsX0 := hid hS.1
    have HSsX1 := hid hS.2
    clear hS
    generalize a0 = xa0 at *
    generalize c0 = xc0 at *
    generalize a1 = xa1 at *
    generalize c1 = xc1 at *
    clear HOs1 HSa0 HSa1 cp01 cp11 cM01 cM11 cB01 cB11
    refine wp_region_gap' 10 11 #[.slice none 0 0, .slice none 0 0] 28 (by kernel_rfl) (by decide +kernel) (by kernel_rfl) rfl (by kernel_rfl) rfl rfl rfl rfl rfl rfl rfl rfl (fun a w => by go_simp) ?_
    simp only [List.take_succ_cons, List.take_zero, List.eraseIdx_cons_succ, List.eraseIdx_cons_zero, List.drop_succ_cons, List.drop_zero]
    repeat (first
      | (refine gap_pure rfl ?_; (first | go_big_quiet_skip | (go_big_quiet_want; go_big_quiet_op; go_big_quiet_on)); refine wpQuiet_nil ?_)
      | (refine gap_skip (by rfl) ?_; (try simp only [Act.put, List.setIfInBounds_toArray, List.set_cons_zero, List.set_cons_succ]))
      | (refine gap_mk rfl (by rfl) (fun V hV R hR => ?_); (first | (go_simp; first | (go_at_call 9; refine (toMp_c _ _).mono ?_; rintro e w' ⟨rfl, t, rfl⟩) | (go_at_call 11; refine (iArbGrant_c _ _ _ _ _ _ _ _ _ _ _ _ _ (Re.of (Hid.out (by assumption)) (by ((try simp only [ext_drew]); (try simp only [ext_ext]); repeat (first | exact Ext.refl _ | with_reducible apply Ext.add | with_reducible apply Ext.dr | apply Ext.alloc | apply Ext.ext | apply Ext.drew | refine Ext.trans ?_ (by assumption))))) (Re.of (Hid.out (by assumption)) (by ((try simp only [ext_drew]); (try simp only [ext_ext]); repeat (first | exact Ext.refl _ | with_reducible apply Ext.add | with_reducible apply Ext.dr | apply Ext.alloc | apply Ext.ext | apply Ext.drew | refine Ext.trans ?_ (by assumption))))) (by omega) (by omega)).mono ?_; rintro e w' ⟨a0, c0, a1, c1, rfl, ⟨t, rfl⟩, ho⟩; have hR := re_Arb ho.re; have hR0 := hid hR.1; have hR1 := hid hR.2; clear hR; have HOi := hid ho; clear ho) | skip)); (show R _ _); refine hR _ _ (show Ext _ _ from (by ((try simp only [ext_drew]); (try simp only [ext_ext]); repeat (first | exact Ext.refl _ | with_reducible apply Ext.add | with_reducible apply Ext.dr | apply Ext.alloc | apply Ext.ext | apply Ext.drew | refine Ext.trans ?_ (by assumption))))) ?_; clear hR R; (try simp only [Act.put, List.setIfInBounds_toArray, List.set_cons_zero, List.set_cons_succ])))
    refine gap_nil ?_
    intro V2 p2 hV2 hp2 hl2 hiv2
    refine ⟨_, rfl, rfl, by simp [Value.oneCell'], rfl, fun W2 hE2 hc2 hb2 => ?_⟩
    (try simp only [Act.put, List.setIfInBounds_toArray, List.set_cons_zero, List.set_cons_succ])
    repeat (refine mix_pure rfl ?_; (first | go_big_quiet_skip | (go_big_quiet_want; go_big_quiet_op; go_big_quiet_on)); refine wpQuiet_nil ?_)
    refine mix_nil ?_
    have EW2 : Ext X1 W2 := (by ((try simp only [ext_drew]); (try simp only [ext_ext]); repeat (first | exact Ext.refl _ | with_reducible apply Ext.add | with_reducible apply Ext.dr | apply Ext.alloc | apply Ext.ext | apply Ext.drew | refine Ext.trans ?_ (by assumption))))
    have lM2 := Nat.lt_of_lt_of_le lMX EW2.size
    have lB2 := Nat.lt_of_lt_of_le lBX EW2.size
    have lp12 := Nat.lt_of_lt_of_le lpX EW2.size
    have lX2 := Nat.lt_of_lt_of_le lX EW2.size
    have cM02 := (EW2.cell lMX 0).trans cM0X
    have cM12 := (EW2.cell lMX 1).trans cM1X
    have cB02 := (EW2.cell lBX 0).trans cB0X
    have cB12 := (EW2.cell lBX 1).trans cB1X
    have cq02 := (EW2.cell lpX 0).trans cp0X
    have cq12 := (EW2.cell lpX 1).trans cp1X
    have cX02 := (EW2.cell lX 0).trans cX0
    have cX12 := (EW2.cell lX 1).trans cX1
    have lp2 := lt_blk hb2
    have cr02 : W2.cell? ⟨p2, 0, none⟩ = some (.slice a0 (ag0 m t1 t2 s k v).length c0) := (cell_blk hb2 0).trans rfl
    have cr12 : W2.cell? ⟨p2, 1, none⟩ = some (.slice a1 (ag1 m t1 t2 s k v).length c1) := (cell_blk hb2 1).trans rfl
    have hXp2 : X < p2 := Nat.lt_of_lt_of_le lX hp2
    obtain ⟨lo2, hi2, hlo2, hhi2, hd2, hoi⟩ := gap_own2 HOi.out hV2 hc2 (hiv2 _ (List.mem_cons_self)) (b0 := X1.heap.size) (Ext.size (by ((try simp only [ext_drew]); (try simp only [ext_ext]); repeat (first | exact Ext.refl _ | with_reducible apply Ext.add | with_reducible apply Ext.dr | apply Ext.alloc | apply Ext.ext | apply Ext.drew | refine Ext.trans ?_ (by assumption)))))
    have HOi0 := hid hoi
    have hS := re_Arb hoi.re
    have HSi0 := hid hS.1
    have HSi1 := hid hS.2
    clear hS
    have HOs0 := hid (HOsX.out.of EW2)
    have hS := re_Arb HOs0.out.re
    have HSs0 := hid hS.1
    have HSs1 := hid hS.2
    clear hS
    have HOx0 := hid (HOx.out.of EW2)
    have hS := re_Arb HOx0.out.re
    have HSy0 := hid hS.1
    have HSy1 := hid hS.2
    clear hS
    clear hoi HOi hE2 hc2 hb2 hiv2 hl2 hp2 hV2 hR0 hR1 HOsX HSsX0 HSsX1 HOx HSx0 HSx1 cp0X cp1X cX0 cX1 cM0X cM1X cB0X cB1X
    generalize a0 = ia0 at *
    generalize c0 = ic0 at *
    generalize a1 = ia1 at *
    generalize c1 = ic1 at *
    try go_wp2_with (first
        | (go_at_call 12; refine (eqArb_c _ _ _ _ _ _ _ _ _ _ _ _ _ (Re.of (Hid.out (by assumption)) (by ((try simp only [ext_drew]); (try simp only [ext_ext]); repeat (first | exact Ext.refl _ | with_reducible apply Ext.add | with_reducible apply Ext.dr | apply Ext.alloc | apply Ext.ext | apply Ext.drew | refine Ext.trans ?_ (by assumption))))) (Re.of (Hid.out (by assumption)) (by ((try simp only [ext_drew]); (try simp only [ext_ext]); repeat (first | exact Ext.refl _ | with_reducible apply Ext.add | with_reducible apply Ext.dr | apply Ext.alloc | apply Ext.ext | apply Ext.drew | refine Ext.trans ?_ (by assumption))))) (Re.of (Hid.out (by assumption)) (by ((try simp only [ext_drew]); (try simp only [ext_ext]); repeat (first | exact Ext.refl _ | with_reducible apply Ext.add | with_reducible apply Ext.dr | apply Ext.alloc | apply Ext.ext | apply Ext.drew | refine Ext.trans ?_ (by assumption))))) (Re.of (Hid.out (by assumption)) (by ((try simp only [ext_drew]); (try simp only [ext_ext]); repeat (first | exact Ext.refl _ | with_reducible apply Ext.add | with_reducible apply Ext.dr | apply Ext.alloc | apply Ext.ext | apply Ext.drew | refine Ext.trans ?_ (by assumption))))) (by omega) (by omega)).mono ?_; rintro e w' ⟨rfl, t, rfl⟩) | (go_at_call 10; refine (toArb_c _ _ _ _ _ _ _ _ _ (Re.of (Hid.out (by assumption)) (by ((try simp only [ext_drew]); (try simp only [ext_ext]); repeat (first | exact Ext.refl _ | with_reducible apply Ext.add | with_reducible apply Ext.dr | apply Ext.alloc | apply Ext.ext | apply Ext.drew | refine Ext.trans ?_ (by assumption))))) (Re.of (Hid.out (by assumption)) (by ((try simp only [ext_drew]); (try simp only [ext_ext]); repeat (first | exact Ext.refl _ | with_reducible apply Ext.add | with_reducible apply Ext.dr | apply Ext.alloc | apply Ext.ext | apply Ext.drew | refine Ext.trans ?_ (by assumption))))) (by omega) (by omega)).mono ?_; rintro e w' ⟨a0, c0, a1, c1, rfl, ⟨t, rfl⟩, ho⟩; have hR := re_Arb ho.re; have hR0 := hid hR.1; have hR1 := hid hR.2; clear hR; have hO := hid ho; clear ho)
        | (
          with_reducible refine wp_region_mix (by kernel_rfl) (by decide +kernel) ?_
          repeat (first
            | (refine mix_pure rfl ?_; (first | go_big_quiet_skip | (go_big_quiet_want; go_big_quiet_op; go_big_quiet_on)); refine wpQuiet_nil ?_)
            | (refine mix_skip (by rfl) ?_; (try simp only [Act.put, List.setIfInBounds_toArray, List.set_cons_zero, List.set_cons_succ]))
            | (refine mix_mk rfl (by rfl) (fun K hK => ?_); (first | (go_simp; first | (go_at_call 12; refine (eqArb_c _ _ _ _ _ _ _ _ _ _ _ _ _ (Re.of (Hid.out (by assumption)) (by ((try simp only [ext_drew]); (try simp only [ext_ext]); repeat (first | exact Ext.refl _ | with_reducible apply Ext.add | with_reducible apply Ext.dr | apply Ext.alloc | apply Ext.ext | apply Ext.drew | refine Ext.trans ?_ (by assumption))))) (Re.of (Hid.out (by assumption)) (by ((try simp only [ext_drew]); (try simp only [ext_ext]); repeat (first | exact Ext.refl _ | with_reducible apply Ext.add | with_reducible apply Ext.dr | apply Ext.alloc | apply Ext.ext | apply Ext.drew | refine Ext.trans ?_ (by assumption))))) (Re.of (Hid.out (by assumption)) (by ((try simp only [ext_drew]); (try simp only [ext_ext]); repeat (first | exact Ext.refl _ | with_reducible apply Ext.add | with_reducible apply Ext.dr | apply Ext.alloc | apply Ext.ext | apply Ext.drew | refine Ext.trans ?_ (by assumption))))) (Re.of (Hid.out (by assumption)) (by ((try simp only [ext_drew]); (try simp only [ext_ext]); repeat (first | exact Ext.refl _ | with_reducible apply Ext.add | with_reducible apply Ext.dr | apply Ext.alloc | apply Ext.ext | apply Ext.drew | refine Ext.trans ?_ (by assumption))))) (by omega) (by omega)).mono ?_; rintro e w' ⟨rfl, t, rfl⟩) | (go_at_call 10; refine (toArb_c _ _ _ _ _ _ _ _ _ (Re.of (Hid.out (by assumption)) (by ((try simp only [ext_drew]); (try simp only [ext_ext]); repeat (first | exact Ext.refl _ | with_reducible apply Ext.add | with_reducible apply Ext.dr | apply Ext.alloc | apply Ext.ext | apply Ext.drew | refine Ext.trans ?_ (by assumption))))) (Re.of (Hid.out (by assumption)) (by ((try simp only [ext_drew]); (try simp only [ext_ext]); repeat (first | exact Ext.refl _ | with_reducible apply Ext.add | with_reducible apply Ext.dr | apply Ext.alloc | apply Ext.ext | apply Ext.drew | refine Ext.trans ?_ (by assumption))))) (by omega) (by omega)).mono ?_; rintro e w' ⟨a0, c0, a1, c1, rfl, ⟨t, rfl⟩, ho⟩; have hR := re_Arb ho.re; have hR0 := hid hR.1; have hR1 := hid hR.2; clear hR; have hO := hid ho; clear ho) | skip)); (show K _ _); refine hK _ _ (show Ext _ _ from (by ((try simp only [ext_drew]); (try simp only [ext_ext]); repeat (first | exact Ext.refl _ | with_reducible apply Ext.add | with_reducible apply Ext.dr | apply Ext.alloc | apply Ext.ext | apply Ext.drew | refine Ext.trans ?_ (by assumption))))) ?_; clear hK K; (try simp only [Act.put, List.setIfInBounds_toArray, List.set_cons_zero, List.set_cons_succ])))
          refine mix_nil ?_)
        | (
          with_reducible refine wp_region_ext (by kernel_rfl) (by kernel_rfl) ?_
          repeat (first | go_big_quiet_skip | (go_big_quiet_want; go_big_quiet_op; first | go_big_quiet_on | (apply Exists.intro; refine ⟨fun _ => ?_, ?_⟩; ((first | (go_at_call 12; first | exact quiet_call (eqArb_c _ _ _ _ _ _ _ _ _ _ _ _ _ (Re.of (Hid.out (by assumption)) (by ((try simp only [ext_drew]); (try simp only [ext_ext]); repeat (first | exact Ext.refl _ | with_reducible apply Ext.add | with_reducible apply Ext.dr | apply Ext.alloc | apply Ext.ext | apply Ext.drew | refine Ext.trans ?_ (by assumption))))) (Re.of (Hid.out (by assumption)) (by ((try simp only [ext_drew]); (try simp only [ext_ext]); repeat (first | exact Ext.refl _ | with_reducible apply Ext.add | with_reducible apply Ext.dr | apply Ext.alloc | apply Ext.ext | apply Ext.drew | refine Ext.trans ?_ (by assumption))))) (Re.of (Hid.out (by assumption)) (by ((try simp only [ext_drew]); (try simp only [ext_ext]); repeat (first | exact Ext.refl _ | with_reducible apply Ext.add | with_reducible apply Ext.dr | apply Ext.alloc | apply Ext.ext | apply Ext.drew | refine Ext.trans ?_ (by assumption))))) (Re.of (Hid.out (by assumption)) (by ((try simp only [ext_drew]); (try simp only [ext_ext]); repeat (first | exact Ext.refl _ | with_reducible apply Ext.add | with_reducible apply Ext.dr | apply Ext.alloc | apply Ext.ext | apply Ext.drew | refine Ext.trans ?_ (by assumption))))) (by omega) (by omega)) | exact quiet_call2 (eqArb_c _ _ _ _ _ _ _ _ _ _ _ _ _ (Re.of (Hid.out (by assumption)) (by ((try simp only [ext_drew]); (try simp only [ext_ext]); repeat (first | exact Ext.refl _ | with_reducible apply Ext.add | with_reducible apply Ext.dr | apply Ext.alloc | apply Ext.ext | apply Ext.drew | refine Ext.trans ?_ (by assumption))))) (Re.of (Hid.out (by assumption)) (by ((try simp only [ext_drew]); (try simp only [ext_ext]); repeat (first | exact Ext.refl _ | with_reducible apply Ext.add | with_reducible apply Ext.dr | apply Ext.alloc | apply Ext.ext | apply Ext.drew | refine Ext.trans ?_ (by assumption))))) (Re.of (Hid.out (by assumption)) (by ((try simp only [ext_drew]); (try simp only [ext_ext]); repeat (first | exact Ext.refl _ | with_reducible apply Ext.add | with_reducible apply Ext.dr | apply Ext.alloc | apply Ext.ext | apply Ext.drew | refine Ext.trans ?_ (by assumption))))) (Re.of (Hid.out (by assumption)) (by ((try simp only [ext_drew]); (try simp only [ext_ext]); repeat (first | exact Ext.refl _ | with_reducible apply Ext.add | with_reducible apply Ext.dr | apply Ext.alloc | apply Ext.ext | apply Ext.drew | refine Ext.trans ?_ (by assumption))))) (by omega) (by omega))) | (go_at_call 10; first | exact quiet_call (toArb_c _ _ _ _ _ _ _ _ _ (Re.of (Hid.out (by assumption)) (by ((try simp only [ext_drew]); (try simp only [ext_ext]); repeat (first | exact Ext.refl _ | with_reducible apply Ext.add | with_reducible apply Ext.dr | apply Ext.alloc | apply Ext.ext | apply Ext.drew | refine Ext.trans ?_ (by assumption))))) (Re.of (Hid.out (by assumption)) (by ((try simp only [ext_drew]); (try simp only [ext_ext]); repeat (first | exact Ext.refl _ | with_reducible apply Ext.add | with_reducible apply Ext.dr | apply Ext.alloc | apply Ext.ext | apply Ext.drew | refine Ext.trans ?_ (by assumption))))) (by omega) (by omega)) | exact quiet_call2 (toArb_c _ _ _ _ _ _ _ _ _ (Re.of (Hid.out (by assumption)) (by ((try simp only [ext_drew]); (try simp only [ext_ext]); repeat (first | exact Ext.refl _ | with_reducible apply Ext.add | with_reducible apply Ext.dr | apply Ext.alloc | apply Ext.ext | apply Ext.drew | refine Ext.trans ?_ (by assumption))))) (Re.of (Hid.out (by assumption)) (by ((try simp only [ext_drew]); (try simp only [ext_ext]); repeat (first | exact Ext.refl _ | with_reducible apply Ext.add | with_reducible apply Ext.dr | apply Ext.alloc | apply Ext.ext | apply Ext.drew | refine Ext.trans ?_ (by assumption))))) (by omega) (by omega))))); (try rw [h1]); (try rw [h2]); (try rw [h3]); (try rw [h4]); (try rw [p1]); (try rw [p2]); (try rw [p3]); (try rw [p4]); (try rw [r1]); (try rw [r2]); (try rw [r3]); (try rw [r4]); (try rw [r5]); (try rw [r6]); (try rw [q3]); (try rw [q4]); (try rw [hp]); (try rw [hq]); go_big_quiet_on)))
          refine wpQuiet_nil ?_
          rintro _ ⟨tq, rfl⟩))
    refine (markArb_c _ _ _ _ _ _ _ _ _ _ _ _ (HOx0.out.of (by ((try simp only [ext_drew]); (try simp only [ext_ext]); repeat (first | exact Ext.refl _ | with_reducible apply Ext.add | with_reducible apply Ext.dr | apply Ext.alloc | apply Ext.ext | apply Ext.drew | refine Ext.trans ?_ (by assumption))))) (by omega) (by omega) (by omega) (by omega)).mono ?_
    rintro e M1 ⟨rfl, hx1, hk1⟩
    have hX1 : X < X1.heap.size := lX
    have dM0 := (hk1.cell (b := W.heap.size) (by rw [ext_size]; omega) (by omega) 0).trans ((ext_cell' _ _ _ _ lM2).trans cM02)
    have dM1 := (hk1.cell (b := W.heap.size) (by rw [ext_size]; omega) (by omega) 1).trans ((ext_cell' _ _ _ _ lM2).trans cM12)
    have dB0 := (hk1.cell (b := W.heap.size + 1) (by rw [ext_size]; omega) (by omega) 0).trans ((ext_cell' _ _ _ _ lB2).trans cB02)
    have dB1 := (hk1.cell (b := W.heap.size + 1) (by rw [ext_size]; omega) (by omega) 1).trans ((ext_cell' _ _ _ _ lB2).trans cB12)
    have dp0 := (hk1.cell (b := p1) (by rw [ext_size]; omega) (by omega) 0).trans ((ext_cell' _ _ _ _ lp12).trans cq02)
    have dp1 := (hk1.cell (b := p1) (by rw [ext_size]; omega) (by omega) 1).trans ((ext_cell' _ _ _ _ lp12).trans cq12)
    have dr0 := (hk1.cell (b := p2) (by rw [ext_size]; omega) (by omega) 0).trans ((ext_cell' _ _ _ _ lp2).trans cr02)
    have dr1 := (hk1.cell (b := p2) (by rw [ext_size]; omega) (by omega) 1).trans ((ext_cell' _ _ _ _ lp2).trans cr12)
    have dX0 := (hk1.cell (b := X) (by rw [ext_size]; omega) (by omega) 0).trans ((ext_cell' _ _ _ _ lX2).trans cX02)
    have dX1 := (hk1.cell (b := X) (by rw [ext_size]; omega) (by omega) 1).trans ((ext_cell' _ _ _ _ lX2).trans cX12)
    have mM : W.heap.size < M1.heap.size := Nat.lt_of_lt_of_le (by rw [ext_size]; omega) hk1.size
    have mB : W.heap.size + 1 < M1.heap.size := Nat.lt_of_lt_of_le (by rw [ext_size]; omega) hk1.size
    have mp1 : p1 < M1.heap.size := Nat.lt_of_lt_of_le (by rw [ext_size]; omega) hk1.size
    have mp2 : p2 < M1.heap.size := Nat.lt_of_lt_of_le (by rw [ext_size]; omega) hk1.size
    have mX : X < M1.heap.size := Nat.lt_of_lt_of_le (by rw [ext_size]; omega) hk1.size
    have HB1 := hid (bel_chg (W := W) (Ext.below (by ((try simp only [ext_drew]); (try simp only [ext_ext]); repeat (first | exact Ext.refl _ | with_reducible apply Ext.add | with_reducible apply Ext.dr | apply Ext.alloc | apply Ext.ext | apply Ext.drew | refine Ext.trans ?_ (by assumption))))) hk1 EW1.size)
    have HOs3 := hid (OwnR.chg (HOs0.out.of (by ((try simp only [ext_drew]); (try simp only [ext_ext]); repeat (first | exact Ext.refl _ | with_reducible apply Ext.add | with_reducible apply Ext.dr | apply Ext.alloc | apply Ext.ext | apply Ext.drew | refine Ext.trans ?_ (by assumption))))) hk1 (.inl hhi1))
    have HOi3 := hid (OwnR.chg (HOi0.out.of (by ((try simp only [ext_drew]); (try simp only [ext_ext]); repeat (first | exact Ext.refl _ | with_reducible apply Ext.add | with_reducible apply Ext.dr | apply Ext.alloc | apply Ext.ext | apply Ext.drew | refine Ext.trans ?_ (by assumption))))) hk1 (by omega))
    have hS := re_Arb HOs3.out.re
    have HSs30 := hid hS.1
    have HSs31 := hid hS.2
    clear hS
    have hS := re_Arb HOi3.out.re
    have HSi30 := hid hS.1
    have HSi31 := hid hS.2
    clear hS
    clear hx1 hk1 HOs0 HOi0 HSs0 HSs1 HSi0 HSi1 HOx0 HSy0 HSy1 cM02 cM12 cB02 cB12 cq02 cq12 cr02 cr12 cX02 cX12
    try go_wp2_with (first
        | (go_at_call 12; refine (eqArb_c _ _ _ _ _ _ _ _ _ _ _ _ _ (Re.of (Hid.out (by assumption)) (by ((try simp only [ext_drew]); (try simp only [ext_ext]); repeat (first | exact Ext.refl _ | with_reducible apply Ext.add | with_reducible apply Ext.dr | apply Ext.alloc | apply Ext.ext | apply Ext.drew | refine Ext.trans ?_ (by assumption))))) (Re.of (Hid.out (by assumption)) (by ((try simp only [ext_drew]); (try simp only [ext_ext]); repeat (first | exact Ext.refl _ | with_reducible apply Ext.add | with_reducible apply Ext.dr | apply Ext.alloc | apply Ext.ext | apply Ext.drew | refine Ext.trans ?_ (by assumption))))) (Re.of (Hid.out (by assumption)) (by ((try simp only [ext_drew]); (try simp only [ext_ext]); repeat (first | exact Ext.refl _ | with_reducible apply Ext.add | with_reducible apply Ext.dr | apply Ext.alloc | apply Ext.ext | apply Ext.drew | refine Ext.trans ?_ (by assumption))))) (Re.of (Hid.out (by assumption)) (by ((try simp only [ext_drew]); (try simp only [ext_ext]); repeat (first | exact Ext.refl _ | with_reducible apply Ext.add | with_reducible apply Ext.dr | apply Ext.alloc | apply Ext.ext | apply Ext.drew | refine Ext.trans ?_ (by assumption))))) (by omega) (by omega)).mono ?_; rintro e w' ⟨rfl, t, rfl⟩)
        | (
          with_reducible refine wp_region_mix (by kernel_rfl) (by decide +kernel) ?_
          repeat (first
            | (refine mix_pure rfl ?_; (first | go_big_quiet_skip | (go_big_quiet_want; go_big_quiet_op; go_big_quiet_on)); refine wpQuiet_nil ?_)
            | (refine mix_skip (by rfl) ?_; (try simp only [Act.put, List.setIfInBounds_toArray, List.set_cons_zero, List.set_cons_succ]))
            | (refine mix_mk rfl (by rfl) (fun K hK => ?_); (first | (go_simp; first | (go_at_call 12; refine (eqArb_c _ _ _ _ _ _ _ _ _ _ _ _ _ (Re.of (Hid.out (by assumption)) (by ((try simp only [ext_drew]); (try simp only [ext_ext]); repeat (first | exact Ext.refl _ | with_reducible apply Ext.add | with_reducible apply Ext.dr | apply Ext.alloc | apply Ext.ext | apply Ext.drew | refine Ext.trans ?_ (by assumption))))) (Re.of (Hid.out (by assumption)) (by ((try simp only [ext_drew]); (try simp only [ext_ext]); repeat (first | exact Ext.refl _ | with_reducible apply Ext.add | with_reducible apply Ext.dr | apply Ext.alloc | apply Ext.ext | apply Ext.drew | refine Ext.trans ?_ (by assumption))))) (Re.of (Hid.out (by assumption)) (by ((try simp only [ext_drew]); (try simp only [ext_ext]); repeat (first | exact Ext.refl _ | with_reducible apply Ext.add | with_reducible apply Ext.dr | apply Ext.alloc | apply Ext.ext | apply Ext.drew | refine Ext.trans ?_ (by assumption))))) (Re.of (Hid.out (by assumption)) (by ((try simp only [ext_drew]); (try simp only [ext_ext]); repeat (first | exact Ext.refl _ | with_reducible apply Ext.add | with_reducible apply Ext.dr | apply Ext.alloc | apply Ext.ext | apply Ext.drew | refine Ext.trans ?_ (by assumption))))) (by omega) (by omega)).mono ?_; rintro e w' ⟨rfl, t, rfl⟩) | skip)); (show K _ _); refine hK _ _ (show Ext _ _ from (by ((try simp only [ext_drew]); (try simp only [ext_ext]); repeat (first | exact Ext.refl _ | with_reducible apply Ext.add | with_reducible apply Ext.dr | apply Ext.alloc | apply Ext.ext | apply Ext.drew | refine Ext.trans ?_ (by assumption))))) ?_; clear hK K; (try simp only [Act.put, List.setIfInBounds_toArray, List.set_cons_zero, List.set_cons_succ])))
          refine mix_nil ?_)
        | (
          with_reducible refine wp_region_ext (by kernel_rfl) (by kernel_rfl) ?_
          repeat (first | go_big_quiet_skip | (go_big_quiet_want; go_big_quiet_op; first | go_big_quiet_on | (apply Exists.intro; refine ⟨fun _ => ?_, ?_⟩; ((first | (go_at_call 12; first | exact quiet_call (eqArb_c _ _ _ _ _ _ _ _ _ _ _ _ _ (Re.of (Hid.out (by assumption)) (by ((try simp only [ext_drew]); (try simp only [ext_ext]); repeat (first | exact Ext.refl _ | with_reducible apply Ext.add | with_reducible apply Ext.dr | apply Ext.alloc | apply Ext.ext | apply Ext.drew | refine Ext.trans ?_ (by assumption))))) (Re.of (Hid.out (by assumption)) (by ((try simp only [ext_drew]); (try simp only [ext_ext]); repeat (first | exact Ext.refl _ | with_reducible apply Ext.add | with_reducible apply Ext.dr | apply Ext.alloc | apply Ext.ext | apply Ext.drew | refine Ext.trans ?_ (by assumption))))) (Re.of (Hid.out (by assumption)) (by ((try simp only [ext_drew]); (try simp only [ext_ext]); repeat (first | exact Ext.refl _ | with_reducible apply Ext.add | with_reducible apply Ext.dr | apply Ext.alloc | apply Ext.ext | apply Ext.drew | refine Ext.trans ?_ (by assumption))))) (Re.of (Hid.out (by assumption)) (by ((try simp only [ext_drew]); (try simp only [ext_ext]); repeat (first | exact Ext.refl _ | with_reducible apply Ext.add | with_reducible apply Ext.dr | apply Ext.alloc | apply Ext.ext | apply Ext.drew | refine Ext.trans ?_ (by assumption))))) (by omega) (by omega)) | exact quiet_call2 (eqArb_c _ _ _ _ _ _ _ _ _ _ _ _ _ (Re.of (Hid.out (by assumption)) (by ((try simp only [ext_drew]); (try simp only [ext_ext]); repeat (first | exact Ext.refl _ | with_reducible apply Ext.add | with_reducible apply Ext.dr | apply Ext.alloc | apply Ext.ext | apply Ext.drew | refine Ext.trans ?_ (by assumption))))) (Re.of (Hid.out (by assumption)) (by ((try simp only [ext_drew]); (try simp only [ext_ext]); repeat (first | exact Ext.refl _ | with_reducible apply Ext.add | with_reducible apply Ext.dr | apply Ext.alloc | apply Ext.ext | apply Ext.drew | refine Ext.trans ?_ (by assumption))))) (Re.of (Hid.out (by assumption)) (by ((try simp only [ext_drew]); (try simp only [ext_ext]); repeat (first | exact Ext.refl _ | with_reducible apply Ext.add | with_reducible apply Ext.dr | apply Ext.alloc | apply Ext.ext | apply Ext.drew | refine Ext.trans ?_ (by assumption))))) (Re.of (Hid.out (by assumption)) (by ((try simp only [ext_drew]); (try simp only [ext_ext]); repeat (first | exact Ext.refl _ | with_reducible apply Ext.add | with_reducible apply Ext.dr | apply Ext.alloc | apply Ext.ext | apply Ext.drew | refine Ext.trans ?_ (by assumption))))) (by omega) (by omega))))); (try rw [h1]); (try rw [h2]); (try rw [h3]); (try rw [h4]); (try rw [p1]); (try rw [p2]); (try rw [p3]); (try rw [p4]); (try rw [r1]); (try rw [r2]); (try rw [r3]); (try rw [r4]); (try rw [r5]); (try rw [r6]); (try rw [q3]); (try rw [q4]); (try rw [hp]); (try rw [hq]); go_big_quiet_on)))
          refine wpQuiet_nil ?_
          rintro _ ⟨tq, rfl⟩))
    refine (markArb_c _ _ _ _ _ _ _ _ _ _ _ _ (HOi3.out.of (by ((try simp only [ext_drew]); (try simp only [ext_ext]); repeat (first | exact Ext.refl _ | with_reducible apply Ext.add | with_reducible apply Ext.dr | apply Ext.alloc | apply Ext.ext | apply Ext.drew | refine Ext.trans ?_ (by assumption))))) (by omega) (by omega) (by omega) (by omega)).mono ?_
    rintro e M2 ⟨rfl, hx2, hk2⟩
    have eM0 := (hk2.cell (b := W.heap.size) (by rw [ext_size]; omega) (by omega) 0).trans ((ext_cell' _ _ _ _ mM).trans dM0)
    have eM1 := (hk2.cell (b := W.heap.size) (by rw [ext_size]; omega) (by omega) 1).trans ((ext_cell' _ _ _ _ mM).trans dM1)
    have eB0 := (hk2.cell (b := W.heap.size + 1) (by rw [ext_size]; omega) (by omega) 0).trans ((ext_cell' _ _ _ _ mB).trans dB0)
    have eB1 := (hk2.cell (b := W.heap.size + 1) (by rw [ext_size]; omega) (by omega) 1).trans ((ext_cell' _ _ _ _ mB).trans dB1)
    have ep0 := (hk2.cell (b := p1) (by rw [ext_size]; omega) (by omega) 0).trans ((ext_cell' _ _ _ _ mp1).trans dp0)
    have ep1 := (hk2.cell (b := p1) (by rw [ext_size]; omega) (by omega) 1).trans ((ext_cell' _ _ _ _ mp1).trans dp1)
    have er0 := (hk2.cell (b := p2) (by rw [ext_size]; omega) (by omega) 0).trans ((ext_cell' _ _ _ _ mp2).trans dr0)
    have er1 := (hk2.cell (b := p2) (by rw [ext_size]; omega) (by omega) 1).trans ((ext_cell' _ _ _ _ mp2).trans dr1)
    have eX0 := (hk2.cell (b := X) (by rw [ext_size]; omega) (by omega) 0).trans ((ext_cell' _ _ _ _ mX).trans dX0)
    have eX1 := (hk2.cell (b := X) (by rw [ext_size]; omega) (by omega) 1).trans ((ext_cell' _ _ _ _ mX).trans dX1)
    have nM : W.heap.size < M2.heap.size := Nat.lt_of_lt_of_le (by rw [ext_size]; omega) hk2.size
    have nB : W.heap.size + 1 < M2.heap.size := Nat.lt_of_lt_of_le (by rw [ext_size]; omega) hk2.size
    have np1 : p1 < M2.heap.size := Nat.lt_of_lt_of_le (by rw [ext_size]; omega) hk2.size
    have np2 : p2 < M2.heap.size := Nat.lt_of_lt_of_le (by rw [ext_size]; omega) hk2.size
    have nX : X < M2.heap.size := Nat.lt_of_lt_of_le (by rw [ext_size]; omega) hk2.size
    have HB2 := hid (bel_chg (W := W) (bel_ext HB1.out (by ((try simp only [ext_drew]); (try simp only [ext_ext]); repeat (first | exact Ext.refl _ | with_reducible apply Ext.add | with_reducible apply Ext.dr | apply Ext.alloc | apply Ext.ext | apply Ext.drew | refine Ext.trans ?_ (by assumption))))) hk2 (by have := EW1.size; omega))
    have HOs4 := hid (OwnR.chg (HOs3.out.of (by ((try simp only [ext_drew]); (try simp only [ext_ext]); repeat (first | exact Ext.refl _ | with_reducible apply Ext.add | with_reducible apply Ext.dr | apply Ext.alloc | apply Ext.ext | apply Ext.drew | refine Ext.trans ?_ (by assumption))))) hk2 (by omega))
    have hS := re_Arb HOs4.out.re
    have HSs40 := hid hS.1
    have HSs41 := hid hS.2
    clear hS
    have HR4 := hid hx2.re
    have H_t1' := hid (Re.below H_t1.out HB2.out)
    have H_t2' := hid (Re.below H_t2.out HB2.out)
    clear hx2 hk2 HOs3 HOi3 HSs30 HSs31 HSi30 HSi31 HB1 dM0 dM1 dB0 dB1 dp0 dp1 dr0 dr1 dX0 dX1
    try go_wp2_with (first
        | (go_at_call 14; refine (heldArb_c _ _ _ _ _ _ _ _ (Re.of (Hid.out (by assumption)) (by ((try simp only [ext_drew]); (try simp only [ext_ext]); repeat (first | exact Ext.refl _ | with_reducible apply Ext.add | with_reducible apply Ext.dr | apply Ext.alloc | apply Ext.ext | apply Ext.drew | refine Ext.trans ?_ (by assumption))))) (by omega) (by omega) (by omega) (by omega)).mono ?_; rintro e w' ⟨rfl, t, rfl⟩)
        | (
          with_reducible refine wp_region_mix (by kernel_rfl) (by decide +kernel) ?_
          repeat (first
            | (refine mix_pure rfl ?_; (first | go_big_quiet_skip | (go_big_quiet_want; go_big_quiet_op; go_big_quiet_on)); refine wpQuiet_nil ?_)
            | (refine mix_skip (by rfl) ?_; (try simp only [Act.put, List.setIfInBounds_toArray, List.set_cons_zero, List.set_cons_succ]))
            | (refine mix_mk rfl (by rfl) (fun K hK => ?_); (first | (go_simp; first | (go_at_call 14; refine (heldArb_c _ _ _ _ _ _ _ _ (Re.of (Hid.out (by assumption)) (by ((try simp only [ext_drew]); (try simp only [ext_ext]); repeat (first | exact Ext.refl _ | with_reducible apply Ext.add | with_reducible apply Ext.dr | apply Ext.alloc | apply Ext.ext | apply Ext.drew | refine Ext.trans ?_ (by assumption))))) (by omega) (by omega) (by omega) (by omega)).mono ?_; rintro e w' ⟨rfl, t, rfl⟩) | skip)); (show K _ _); refine hK _ _ (show Ext _ _ from (by ((try simp only [ext_drew]); (try simp only [ext_ext]); repeat (first | exact Ext.refl _ | with_reducible apply Ext.add | with_reducible apply Ext.dr | apply Ext.alloc | apply Ext.ext | apply Ext.drew | refine Ext.trans ?_ (by assumption))))) ?_; clear hK K; (try simp only [Act.put, List.setIfInBounds_toArray, List.set_cons_zero, List.set_cons_succ])))
          refine mix_nil ?_)
        | (
          with_reducible refine wp_region_ext (by kernel_rfl) (by kernel_rfl) ?_
          repeat (first | go_big_quiet_skip | (go_big_quiet_want; go_big_quiet_op; first | go_big_quiet_on | (apply Exists.intro; refine ⟨fun _ => ?_, ?_⟩; ((first | (go_at_call 14; first | exact quiet_call (heldArb_c _ _ _ _ _ _ _ _ (Re.of (Hid.out (by assumption)) (by ((try simp only [ext_drew]); (try simp only [ext_ext]); repeat (first | exact Ext.refl _ | with_reducible apply Ext.add | with_reducible apply Ext.dr | apply Ext.alloc | apply Ext.ext | apply Ext.drew | refine Ext.trans ?_ (by assumption))))) (by omega) (by omega) (by omega) (by omega)) | exact quiet_call2 (heldArb_c _ _ _ _ _ _ _ _ (Re.of (Hid.out (by assumption)) (by ((try simp only [ext_drew]); (try simp only [ext_ext]); repeat (first | exact Ext.refl _ | with_reducible apply Ext.add | with_reducible apply Ext.dr | apply Ext.alloc | apply Ext.ext | apply Ext.drew | refine Ext.trans ?_ (by assumption))))) (by omega) (by omega) (by omega) (by omega))))); (try rw [h1]); (try rw [h2]); (try rw [h3]); (try rw [h4]); (try rw [p1]); (try rw [p2]); (try rw [p3]); (try rw [p4]); (try rw [r1]); (try rw [r2]); (try rw [r3]); (try rw [r4]); (try rw [r5]); (try rw [r6]); (try rw [q3]); (try rw [q4]); (try rw [hp]); (try rw [hq]); go_big_quiet_on)))
          refine wpQuiet_nil ?_
          rintro _ ⟨tq, rfl⟩))
    refine wp_region_gap' 11 12 #[.slice none 0 0, .slice none 0 0] 28 (by kernel_rfl) (by decide +kernel) (by kernel_rfl) rfl (by kernel_rfl) rfl rfl rfl rfl rfl rfl rfl rfl (fun a w => by go_simp) ?_
    simp only [List.take_succ_cons, List.take_zero, List.eraseIdx_cons_succ, List.eraseIdx_cons_zero, List.drop_succ_cons, List.drop_zero]
    repeat (first
      | (refine gap_pure rfl ?_; (first | go_big_quiet_skip | (go_big_quiet_want; go_big_quiet_op; go_big_quiet_on)); refine wpQuiet_nil ?_)
      | (refine gap_skip (by rfl) ?_; (try simp only [Act.put, List.setIfInBounds_toArray, List.set_cons_zero, List.set_cons_succ]))
      | (refine gap_mk rfl (by rfl) (fun V hV R hR => ?_); (first | (go_simp; first | (go_at_call 9; refine (toMp_c _ _).mono ?_; rintro e w' ⟨rfl, t, rfl⟩) | (go_at_call 10; refine (toArb_c _ _ _ _ _ _ _ _ _ (Re.of (Hid.out (by assumption)) (by ((try simp only [ext_drew]); (try simp only [ext_ext]); repeat (first | exact Ext.refl _ | with_reducible apply Ext.add | with_reducible apply Ext.dr | apply Ext.alloc | apply Ext.ext | apply Ext.drew | refine Ext.trans ?_ (by assumption))))) (Re.of (Hid.out (by assumption)) (by ((try simp only [ext_drew]); (try simp only [ext_ext]); repeat (first | exact Ext.refl _ | with_reducible apply Ext.add | with_reducible apply Ext.dr | apply Ext.alloc | apply Ext.ext | apply Ext.drew | refine Ext.trans ?_ (by assumption))))) (by omega) (by omega)).mono ?_; rintro e w' ⟨a0, c0, a1, c1, rfl, ⟨t, rfl⟩, ho⟩; have hR := re_Arb ho.re; have hR0 := hid hR.1; have hR1 := hid hR.2; clear hR; have hO := hid ho; clear ho) | (go_at_call 11; refine (iArbGrant_c _ _ _ _ _ _ _ _ _ _ _ _ _ (Re.of (Hid.out (by assumption)) (by ((try simp only [ext_drew]); (try simp only [ext_ext]); repeat (first | exact Ext.refl _ | with_reducible apply Ext.add | with_reducible apply Ext.dr | apply Ext.alloc | apply Ext.ext | apply Ext.drew | refine Ext.trans ?_ (by assumption))))) (Re.of (Hid.out (by assumption)) (by ((try simp only [ext_drew]); (try simp only [ext_ext]); repeat (first | exact Ext.refl _ | with_reducible apply Ext.add | with_reducible apply Ext.dr | apply Ext.alloc | apply Ext.ext | apply Ext.drew | refine Ext.trans ?_ (by assumption))))) (by omega) (by omega)).mono ?_; rintro e w' ⟨a0, c0, a1, c1, rfl, ⟨t, rfl⟩, ho⟩; have hR := re_Arb ho.re; have hR0 := hid hR.1; have hR1 := hid hR.2; clear hR; have HOi := hid ho; clear ho) | skip)); (show R _ _); refine hR _ _ (show Ext _ _ from (by ((try simp only [ext_drew]); (try simp only [ext_ext]); repeat (first | exact Ext.refl _ | with_reducible apply Ext.add | with_reducible apply Ext.dr | apply Ext.alloc | apply Ext.ext | apply Ext.drew | refine Ext.trans ?_ (by assumption))))) ?_; clear hR R; (try simp only [Act.put, List.setIfInBounds_toArray, List.set_cons_zero, List.set_cons_succ])))
    refine gap_nil ?_
    intro V3 p3 hV3 hp3 hl3 hiv3
    refine ⟨_, rfl, rfl, by simp [Value.oneCell'], rfl, fun W3 hE3 hc3 hb3 => ?_⟩
    (try simp only [Act.put, List.setIfInBounds_toArray, List.set_cons_zero, List.set_cons_succ])
    repeat (refine mix_pure rfl ?_; (first | go_big_quiet_skip | (go_big_quiet_want; go_big_quiet_op; go_big_quiet_on)); refine wpQuiet_nil ?_)
    refine mix_nil ?_
    have EW3 : Ext M2 W3 := (by ((try simp only [ext_drew]); (try simp only [ext_ext]); repeat (first | exact Ext.refl _ | with_reducible apply Ext.add | with_reducible apply Ext.dr | apply Ext.alloc | apply Ext.ext | apply Ext.drew | refine Ext.trans ?_ (by assumption))))
    have fp0 := (EW3.cell np1 0).trans ep0
    have fp1 := (EW3.cell np1 1).trans ep1
    have fr0 := (EW3.cell np2 0).trans er0
    have fr1 := (EW3.cell np2 1).trans er1
    have q1 := Nat.lt_of_lt_of_le np1 EW3.size
    have q2 := Nat.lt_of_lt_of_le np2 EW3.size
    have q3 := lt_blk hb3
    have fs0 : W3.cell? ⟨p3, 0, none⟩ = some (.slice a0 (ag0 m t1 t2 s k v).length c0) := (cell_blk hb3 0).trans rfl
    have fs1 : W3.cell? ⟨p3, 1, none⟩ = some (.slice a1 (ag1 m t1 t2 s k v).length c1) := (cell_blk hb3 1).trans rfl
    obtain ⟨lo3, hi3, hlo3, hhi3, hd3, hoi⟩ := gap_own2 HOi.out hV3 hc3 (hiv3 _ (List.mem_cons_self)) (b0 := M2.heap.size) (Ext.size (by ((try simp only [ext_drew]); (try simp only [ext_ext]); repeat (first | exact Ext.refl _ | with_reducible apply Ext.add | with_reducible apply Ext.dr | apply Ext.alloc | apply Ext.ext | apply Ext.drew | refine Ext.trans ?_ (by assumption)))))
    have hS := re_Arb hoi.re
    have HSi50 := hid hS.1
    have HSi51 := hid hS.2
    clear hS
    have HOs5 := hid (HOs4.out.of EW3)
    have hS := re_Arb HOs5.out.re
    have HSs50 := hid hS.1
    have HSs51 := hid hS.2
    clear hS
    have HR5 := hid (HR4.out.of EW3)
    clear hoi HOi hE3 hc3 hb3 hiv3 hl3 hp3 hV3 hR0 hR1 HOs4 HSs40 HSs41 HR4 eM0 eM1 eB0 eB1 ep0 ep1 er0 er1 eX0 eX1
    try go_wp2_with (first
        | (go_at_call 12; refine (eqArb_c _ _ _ _ _ _ _ _ _ _ _ _ _ (Re.of (Hid.out (by assumption)) (by ((try simp only [ext_drew]); (try simp only [ext_ext]); repeat (first | exact Ext.refl _ | with_reducible apply Ext.add | with_reducible apply Ext.dr | apply Ext.alloc | apply Ext.ext | apply Ext.drew | refine Ext.trans ?_ (by assumption))))) (Re.of (Hid.out (by assumption)) (by ((try simp only [ext_drew]); (try simp only [ext_ext]); repeat (first | exact Ext.refl _ | with_reducible apply Ext.add | with_reducible apply Ext.dr | apply Ext.alloc | apply Ext.ext | apply Ext.drew | refine Ext.trans ?_ (by assumption))))) (Re.of (Hid.out (by assumption)) (by ((try simp only [ext_drew]); (try simp only [ext_ext]); repeat (first | exact Ext.refl _ | with_reducible apply Ext.add | with_reducible apply Ext.dr | apply Ext.alloc | apply Ext.ext | apply Ext.drew | refine Ext.trans ?_ (by assumption))))) (Re.of (Hid.out (by assumption)) (by ((try simp only [ext_drew]); (try simp only [ext_ext]); repeat (first | exact Ext.refl _ | with_reducible apply Ext.add | with_reducible apply Ext.dr | apply Ext.alloc | apply Ext.ext | apply Ext.drew | refine Ext.trans ?_ (by assumption))))) (by omega) (by omega)).mono ?_; rintro e w' ⟨rfl, t, rfl⟩) | (go_at_call 14; refine (heldArb_c _ _ _ _ _ _ _ _ (Re.of (Hid.out (by assumption)) (by ((try simp only [ext_drew]); (try simp only [ext_ext]); repeat (first | exact Ext.refl _ | with_reducible apply Ext.add | with_reducible apply Ext.dr | apply Ext.alloc | apply Ext.ext | apply Ext.drew | refine Ext.trans ?_ (by assumption))))) (by omega) (by omega) (by omega) (by omega)).mono ?_; rintro e w' ⟨rfl, t, rfl⟩)
        | (
          with_reducible refine wp_region_mix (by kernel_rfl) (by decide +kernel) ?_
          repeat (first
            | (refine mix_pure rfl ?_; (first | go_big_quiet_skip | (go_big_quiet_want; go_big_quiet_op; go_big_quiet_on)); refine wpQuiet_nil ?_)
            | (refine mix_skip (by rfl) ?_; (try simp only [Act.put, List.setIfInBounds_toArray, List.set_cons_zero, List.set_cons_succ]))
            | (refine mix_mk rfl (by rfl) (fun K hK => ?_); (first | (go_simp; first | (go_at_call 12; refine (eqArb_c _ _ _ _ _ _ _ _ _ _ _ _ _ (Re.of (Hid.out (by assumption)) (by ((try simp only [ext_drew]); (try simp only [ext_ext]); repeat (first | exact Ext.refl _ | with_reducible apply Ext.add | with_reducible apply Ext.dr | apply Ext.alloc | apply Ext.ext | apply Ext.drew | refine Ext.trans ?_ (by assumption))))) (Re.of (Hid.out (by assumption)) (by ((try simp only [ext_drew]); (try simp only [ext_ext]); repeat (first | exact Ext.refl _ | with_reducible apply Ext.add | with_reducible apply Ext.dr | apply Ext.alloc | apply Ext.ext | apply Ext.drew | refine Ext.trans ?_ (by assumption))))) (Re.of (Hid.out (by assumption)) (by ((try simp only [ext_drew]); (try simp only [ext_ext]); repeat (first | exact Ext.refl _ | with_reducible apply Ext.add | with_reducible apply Ext.dr | apply Ext.alloc | apply Ext.ext | apply Ext.drew | refine Ext.trans ?_ (by assumption))))) (Re.of (Hid.out (by assumption)) (by ((try simp only [ext_drew]); (try simp only [ext_ext]); repeat (first | exact Ext.refl _ | with_reducible apply Ext.add | with_reducible apply Ext.dr | apply Ext.alloc | apply Ext.ext | apply Ext.drew | refine Ext.trans ?_ (by assumption))))) (by omega) (by omega)).mono ?_; rintro e w' ⟨rfl, t, rfl⟩) | (go_at_call 14; refine (heldArb_c _ _ _ _ _ _ _ _ (Re.of (Hid.out (by assumption)) (by ((try simp only [ext_drew]); (try simp only [ext_ext]); repeat (first | exact Ext.refl _ | with_reducible apply Ext.add | with_reducible apply Ext.dr | apply Ext.alloc | apply Ext.ext | apply Ext.drew | refine Ext.trans ?_ (by assumption))))) (by omega) (by omega) (by omega) (by omega)).mono ?_; rintro e w' ⟨rfl, t, rfl⟩) | skip)); (show K _ _); refine hK _ _ (show Ext _ _ from (by ((try simp only [ext_drew]); (try simp only [ext_ext]); repeat (first | exact Ext.refl _ | with_reducible apply Ext.add | with_reducible apply Ext.dr | apply Ext.alloc | apply Ext.ext | apply Ext.drew | refine Ext.trans ?_ (by assumption))))) ?_; clear hK K; (try simp only [Act.put, List.setIfInBounds_toArray, List.set_cons_zero, List.set_cons_succ])))
          refine mix_nil ?_)
        | (
          with_reducible refine wp_region_ext (by kernel_rfl) (by kernel_rfl) ?_
          repeat (first | go_big_quiet_skip | (go_big_quiet_want; go_big_quiet_op; first | go_big_quiet_on | (apply Exists.intro; refine ⟨fun _ => ?_, ?_⟩; ((first | (go_at_call 12; first | exact quiet_call (eqArb_c _ _ _ _ _ _ _ _ _ _ _ _ _ (Re.of (Hid.out (by assumption)) (by ((try simp only [ext_drew]); (try simp only [ext_ext]); repeat (first | exact Ext.refl _ | with_reducible apply Ext.add | with_reducible apply Ext.dr | apply Ext.alloc | apply Ext.ext | apply Ext.drew | refine Ext.trans ?_ (by assumption))))) (Re.of (Hid.out (by assumption)) (by ((try simp only [ext_drew]); (try simp only [ext_ext]); repeat (first | exact Ext.refl _ | with_reducible apply Ext.add | with_reducible apply Ext.dr | apply Ext.alloc | apply Ext.ext | apply Ext.drew | refine Ext.trans ?_ (by assumption))))) (Re.of (Hid.out (by assumption)) (by ((try simp only [ext_drew]); (try simp only [ext_ext]); repeat (first | exact Ext.refl _ | with_reducible apply Ext.add | with_reducible apply Ext.dr | apply Ext.alloc | apply Ext.ext | apply Ext.drew | refine Ext.trans ?_ (by assumption))))) (Re.of (Hid.out (by assumption)) (by ((try simp only [ext_drew]); (try simp only [ext_ext]); repeat (first | exact Ext.refl _ | with_reducible apply Ext.add | with_reducible apply Ext.dr | apply Ext.alloc | apply Ext.ext | apply Ext.drew | refine Ext.trans ?_ (by assumption))))) (by omega) (by omega)) | exact quiet_call2 (eqArb_c _ _ _ _ _ _ _ _ _ _ _ _ _ (Re.of (Hid.out (by assumption)) (by ((try simp only [ext_drew]); (try simp only [ext_ext]); repeat (first | exact Ext.refl _ | with_reducible apply Ext.add | with_reducible apply Ext.dr | apply Ext.alloc | apply Ext.ext | apply Ext.drew | refine Ext.trans ?_ (by assumption))))) (Re.of (Hid.out (by assumption)) (by ((try simp only [ext_drew]); (try simp only [ext_ext]); repeat (first | exact Ext.refl _ | with_reducible apply Ext.add | with_reducible apply Ext.dr | apply Ext.alloc | apply Ext.ext | apply Ext.drew | refine Ext.trans ?_ (by assumption))))) (Re.of (Hid.out (by assumption)) (by ((try simp only [ext_drew]); (try simp only [ext_ext]); repeat (first | exact Ext.refl _ | with_reducible apply Ext.add | with_reducible apply Ext.dr | apply Ext.alloc | apply Ext.ext | apply Ext.drew | refine Ext.trans ?_ (by assumption))))) (Re.of (Hid.out (by assumption)) (by ((try simp only [ext_drew]); (try simp only [ext_ext]); repeat (first | exact Ext.refl _ | with_reducible apply Ext.add | with_reducible apply Ext.dr | apply Ext.alloc | apply Ext.ext | apply Ext.drew | refine Ext.trans ?_ (by assumption))))) (by omega) (by omega))) | (go_at_call 14; first | exact quiet_call (heldArb_c _ _ _ _ _ _ _ _ (Re.of (Hid.out (by assumption)) (by ((try simp only [ext_drew]); (try simp only [ext_ext]); repeat (first | exact Ext.refl _ | with_reducible apply Ext.add | with_reducible apply Ext.dr | apply Ext.alloc | apply Ext.ext | apply Ext.drew | refine Ext.trans ?_ (by assumption))))) (by omega) (by omega) (by omega) (by omega)) | exact quiet_call2 (heldArb_c _ _ _ _ _ _ _ _ (Re.of (Hid.out (by assumption)) (by ((try simp only [ext_drew]); (try simp only [ext_ext]); repeat (first | exact Ext.refl _ | with_reducible apply Ext.add | with_reducible apply Ext.dr | apply Ext.alloc | apply Ext.ext | apply Ext.drew | refine Ext.trans ?_ (by assumption))))) (by omega) (by omega) (by omega) (by omega))))); (try rw [h1]); (try rw [h2]); (try rw [h3]); (try rw [h4]); (try rw [p1]); (try rw [p2]); (try rw [p3]); (try rw [p4]); (try rw [r1]); (try rw [r2]); (try rw [r3]); (try rw [r4]); (try rw [r5]); (try rw [r6]); (try rw [q3]); (try rw [q4]); (try rw [hp]); (try rw [hq]); go_big_quiet_on)))
          refine wpQuiet_nil ?_
          rintro _ ⟨tq, rfl⟩))
    go_ret
    exact ⟨rfl, bel_ext HB2.out (by ((try simp only [ext_drew]); (try simp only [ext_ext]); repeat (first | exact Ext.refl _ | with_reducible apply Ext.add | with_reducible apply Ext.dr | apply Ext.alloc | apply Ext.ext | apply Ext.drew | refine Ext.trans ?_ (by assumption))))⟩

set_option maxRecDepth 100000 in
theorem fnExactArbGrant_lifted (os : Os) (started : os.Started) (H : Type) (enc : TypeId × Value → H) :
    ReturnsInHanded {} Try.checked os 3 .any (Rows.fnExactArbGrantSpec.pre6 enc Try.prog Try.f3 Rows.fnExactArbGrantRow.domain false) (Rows.fnExactArbGrantSpec.post enc Try.prog Try.f3 false true false false) := by
  refine returnsInHanded_of_change (C := Try.checked) own_knob started (by kernel_rfl) Try.func3
    (ChangeSpec.witness6 (enc := enc) (C := Try.checked) false ⟨#[], #[.agg #[.int .i64 0, .int .i64 0], .agg #[.slice none 0 0, .slice none 0 0], .int .i64 0, .int .i64 0, .int .i64 0], []⟩ 8 (by kernel_rfl) (by kernel_rfl) (by kernel_rfl) (by kernel_rfl)) ?_
  intro W base args ds gs before hval0 hW _ _
  have hval : ∀ (j : Nat) t v, Try.f3.params[j]? = some t → args[j]? = some v → Value.okWide Try.prog W .any base t v := hval0
  have hfin : ∀ W', Below W.heap.size W W' → Rows.fnExactArbGrantSpec.post enc Try.prog Try.f3 false true false false W args (.bool true) W' := fun W' hb =>
    law_post laid_out rfl bool_ty rfl (by kernel_rfl) hW (fun ds h => by match ds, h with | [_, _, _, _, _], _ => rfl) hb
  suffices hwalk : Calls Try.prog 3 args W fun e W' => e = .returned (.bool true) ∧ Below W.heap.size W W' by
    refine hwalk.mono fun e W' ⟨he, hb⟩ => ?_
    subst he
    exact ⟨_, rfl, hfin W' hb⟩
  clear hfin
  obtain ⟨p, q, hA0, hV, _, hfz, hnd⟩ := hW
  have hA : DataW.TrodAll enc Try.prog W 0 (fun _ => true) true Try.f3.params.toList args.toList ds p := hA0
  clear hA0 hval0 hV hfz hnd
  rw [Try.params3] at hA hval
  obtain ⟨v0, vs0, d0, ds0, p0, q0, hargs0, _, _, h0, r0⟩ := trodAll_cons hA
  obtain ⟨v1, vs1, d1, ds1, p1, q1, hargs1, _, _, h1, r1⟩ := trodAll_cons r0
  obtain ⟨v2, vs2, d2, ds2, p2, q2, hargs2, _, _, h2, r2⟩ := trodAll_cons r1
  obtain ⟨v3, vs3, d3, ds3, p3, q3, hargs3, _, _, h3, r3⟩ := trodAll_cons r2
  obtain ⟨v4, vs4, d4, ds4, p4, q4, hargs4, _, _, h4, r4⟩ := trodAll_cons r3
  obtain ⟨hnil, _, _⟩ := trodAll_nil r4
  obtain rfl : args = #[v0, v1, v2, v3, v4] := by cases args; simp_all
  clear hargs0 hargs1 hargs2 hargs3 hargs4 hnil
  obtain ⟨cs0, rfl, _⟩ := okWide_struct Try.underlying23 (hval 0 23 v0 rfl rfl)
  obtain ⟨e0, hd0⟩ := open_arg (s := sMp) (by kernel_rfl) h0
  obtain ⟨m, hm0, _⟩ := rd_Mp hd0
  obtain rfl : cs0 = m.cells.toArray := by rw [← hm0]; rfl
  obtain ⟨cs1, rfl, _⟩ := okWide_struct Try.underlying26 (hval 1 26 v1 rfl rfl)
  obtain ⟨e1, hd1⟩ := open_arg (s := sArb) (by kernel_rfl) h1
  obtain ⟨t_a1, t_n1, t_c1, t1, t_a2, t_n2, t_c2, t2, hm1, h1_t0, h1_t1⟩ := open_Arb hd1
  obtain rfl : cs1 = #[.slice t_a1 t_n1 t_c1, .slice t_a2 t_n2 t_c2] := by apply Array.toList_inj.1; exact hm1
  obtain ⟨s, rfl, _, _, _⟩ := open_int Try.underlying3 (hval 2 3 v2 rfl rfl) h2
  obtain ⟨k, rfl, _, _, _⟩ := open_int Try.underlying3 (hval 3 3 v3 rfl rfl) h3
  obtain ⟨v, rfl, _, _, _⟩ := open_int Try.underlying3 (hval 4 3 v4 rfl rfl) h4
  exact fnExactArbGrant_walk W m t_a1 t_a2 t_n1 t_c1 t_n2 t_c2 t1 t2 h1_t0 h1_t1 s k v

theorem fnExactArbGrant_holds : Rows.FnExactArbGrantSaid :=
  OpenClaim.holds_of_wide 3 Try.f3 rfl rfl rfl rfl rfl rfl rfl ⟨rfl, rfl, rfl, rfl, rfl⟩ rfl rfl rfl rfl rfl (by kernel_rfl) Try.func3 (by kernel_rfl)
    (of_decide_eq_true (by kernel_rfl)) (by unfold Func.isWrapper; rw [if_neg (by decide +kernel)]; exact ⟨rfl, rfl⟩)
    (fun os started H enc _ => fnExactArbGrant_lifted os started H enc)


end Go.Proofs.Ytcfbfpgcfnpdgaa
