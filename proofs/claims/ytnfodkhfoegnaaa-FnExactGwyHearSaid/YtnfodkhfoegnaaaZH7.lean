/- FnExactGwyHear: the program's function returns what the reference's returns; for all arguments. -/
import Derived.Test.YtnfodkhfoegnaaaZH2
import Derived.Test.YtnfodkhfoegnaaaZH6
namespace Go.Proofs.Ytnfodkhfoegnaaa
open Go.ChangeShapes Go.WideShapes Go.ChangeAt Go.RowKit
set_option linter.unusedSimpArgs false
set_option linter.unusedVariables false

set_option maxRecDepth 100000 in
set_option maxHeartbeats 8000000 in
theorem fnExactGwyHear_walk (W : World) (m : Mp) (b_a : Option Addr) (b_n b_c : Nat) (b : List Row) (h_b : Re W (.sl sRow) [.slice b_a b_n b_c] (.l (b.map Row.dat))) (s : Int) (x : Msg) :
    Calls Try.prog 5 #[.agg #[.int .i64 m.c, .int .i64 m.w], .agg #[.slice b_a b_n b_c], .int .i64 s, .agg #[.int .i64 x.kind, .int .i64 x.to_, .int .i64 x.cell, .int .i64 x.side, .int .i64 x.n, .int .i64 x.ord.who, .int .i64 x.ord.seq, .int .i64 x.ord.kind, .int .i64 x.ord.to_, .int .i64 x.ord.n, .int .i64 x.pcl.n, .int .i64 x.pcl.kind, .int .i64 x.pcl.wk.id, .int .i64 x.pcl.wk.at_, .int .i64 x.pcl.wk.coins, .int .i64 x.pcl.wk.seq, .int .i64 x.pcl.wk.last, .int .i64 x.pcl.coins, .int .i64 x.gst.src, .int .i64 x.gst.count, .int .i64 x.gst.wk.id, .int .i64 x.gst.wk.at_, .int .i64 x.gst.wk.coins, .int .i64 x.gst.wk.seq, .int .i64 x.gst.wk.last]] W fun e W' => e = .returned (.bool true) ∧ Below W.heap.size W W' := by
  have m_b_n := h_b.max
  have H_b := hid h_b
  clear h_b
  by_cases s_b_n : (1048576 : Int) < 0 + (b_n : Int)
  · go_enter Try.func5, Try.ntmps5
    try go_wp2_with (first
        | (go_at_call 11; refine (szGwy_c _ _ _ _ _ (by omega) (by omega) (by assumption)).mono ?_; rintro e w' ⟨rfl, t, rfl⟩)
        | (
          with_reducible refine wp_region_mix (by kernel_rfl) (by decide +kernel) ?_
          repeat (first
            | (refine mix_pure rfl ?_; (first | go_big_quiet_skip | (go_big_quiet_want; go_big_quiet_op; go_big_quiet_on)); refine wpQuiet_nil ?_)
            | (refine mix_skip (by rfl) ?_; (try simp only [Act.put, List.setIfInBounds_toArray, List.set_cons_zero, List.set_cons_succ]))
            | (refine mix_mk rfl (by rfl) (fun K hK => ?_); (first | (go_simp; first | (go_at_call 11; refine (szGwy_c _ _ _ _ _ (by omega) (by omega) (by assumption)).mono ?_; rintro e w' ⟨rfl, t, rfl⟩) | skip)); (show K _ _); refine hK _ _ (show Ext _ _ from (by ((try simp only [ext_drew]); (try simp only [ext_ext]); repeat (first | exact Ext.refl _ | with_reducible apply Ext.add | with_reducible apply Ext.dr | apply Ext.alloc | apply Ext.ext | apply Ext.drew | refine Ext.trans ?_ (by assumption))))) ?_; clear hK K; (try simp only [Act.put, List.setIfInBounds_toArray, List.set_cons_zero, List.set_cons_succ])))
          refine mix_nil ?_)
        | (
          with_reducible refine wp_region_ext (by kernel_rfl) (by kernel_rfl) ?_
          repeat (first | go_big_quiet_skip | (go_big_quiet_want; go_big_quiet_op; first | go_big_quiet_on | (apply Exists.intro; refine ⟨fun _ => ?_, ?_⟩; ((first | (go_at_call 11; first | exact quiet_call (szGwy_c _ _ _ _ _ (by omega) (by omega) (by assumption)) | exact quiet_call2 (szGwy_c _ _ _ _ _ (by omega) (by omega) (by assumption))))); (try rw [h1]); (try rw [h2]); (try rw [h3]); (try rw [h4]); (try rw [p1]); (try rw [p2]); (try rw [p3]); (try rw [p4]); (try rw [r1]); (try rw [r2]); (try rw [r3]); (try rw [r4]); (try rw [r5]); (try rw [r6]); (try rw [q3]); (try rw [q4]); (try rw [hp]); (try rw [hq]); go_big_quiet_on)))
          refine wpQuiet_nil ?_
          rintro _ ⟨tq, rfl⟩))
    go_ret
    exact ⟨rfl, Ext.below (by ((try simp only [ext_drew]); (try simp only [ext_ext]); repeat (first | exact Ext.refl _ | with_reducible apply Ext.add | with_reducible apply Ext.dr | apply Ext.alloc | apply Ext.ext | apply Ext.drew | refine Ext.trans ?_ (by assumption))))⟩
  · have hlen : (ghL m b s x).length ≤ 1048576 := by have := ghL_len m b s x; have := H_b.out.len; omega
    go_enter Try.func5, Try.ntmps5
    try go_wp2_with (first
        | (go_at_call 11; refine (szGwy_c _ _ _ _ _ (by omega) (by omega) (by assumption)).mono ?_; rintro e w' ⟨rfl, t, rfl⟩)
        | (
          with_reducible refine wp_region_mix (by kernel_rfl) (by decide +kernel) ?_
          repeat (first
            | (refine mix_pure rfl ?_; (first | go_big_quiet_skip | (go_big_quiet_want; go_big_quiet_op; go_big_quiet_on)); refine wpQuiet_nil ?_)
            | (refine mix_skip (by rfl) ?_; (try simp only [Act.put, List.setIfInBounds_toArray, List.set_cons_zero, List.set_cons_succ]))
            | (refine mix_mk rfl (by rfl) (fun K hK => ?_); (first | (go_simp; first | (go_at_call 11; refine (szGwy_c _ _ _ _ _ (by omega) (by omega) (by assumption)).mono ?_; rintro e w' ⟨rfl, t, rfl⟩) | skip)); (show K _ _); refine hK _ _ (show Ext _ _ from (by ((try simp only [ext_drew]); (try simp only [ext_ext]); repeat (first | exact Ext.refl _ | with_reducible apply Ext.add | with_reducible apply Ext.dr | apply Ext.alloc | apply Ext.ext | apply Ext.drew | refine Ext.trans ?_ (by assumption))))) ?_; clear hK K; (try simp only [Act.put, List.setIfInBounds_toArray, List.set_cons_zero, List.set_cons_succ])))
          refine mix_nil ?_)
        | (
          with_reducible refine wp_region_ext (by kernel_rfl) (by kernel_rfl) ?_
          repeat (first | go_big_quiet_skip | (go_big_quiet_want; go_big_quiet_op; first | go_big_quiet_on | (apply Exists.intro; refine ⟨fun _ => ?_, ?_⟩; ((first | (go_at_call 11; first | exact quiet_call (szGwy_c _ _ _ _ _ (by omega) (by omega) (by assumption)) | exact quiet_call2 (szGwy_c _ _ _ _ _ (by omega) (by omega) (by assumption))))); (try rw [h1]); (try rw [h2]); (try rw [h3]); (try rw [h4]); (try rw [p1]); (try rw [p2]); (try rw [p3]); (try rw [p4]); (try rw [r1]); (try rw [r2]); (try rw [r3]); (try rw [r4]); (try rw [r5]); (try rw [r6]); (try rw [q3]); (try rw [q4]); (try rw [hp]); (try rw [hq]); go_big_quiet_on)))
          refine wpQuiet_nil ?_
          rintro _ ⟨tq, rfl⟩))
    refine wp_region_gapT' 11 12 #[.slice none 0 0] 59 (by kernel_rfl) (by decide +kernel) (by kernel_rfl) rfl (by kernel_rfl) rfl rfl rfl rfl rfl rfl rfl rfl (fun a w => by go_simp) ?_
    simp only [List.take_succ_cons, List.take_zero, List.eraseIdx_cons_succ, List.eraseIdx_cons_zero, List.drop_succ_cons, List.drop_zero]
    repeat (first
      | (((with_reducible refine gapload_gate (T1 := 33) ?_); refine gap_loadW (by rfl) _ _ rfl (W.heap.size + 1 + 1) #[.int .i64 x.kind, .int .i64 x.to_, .int .i64 x.cell, .int .i64 x.side, .int .i64 x.n, .int .i64 x.ord.who, .int .i64 x.ord.seq, .int .i64 x.ord.kind, .int .i64 x.ord.to_, .int .i64 x.ord.n, .int .i64 x.pcl.n, .int .i64 x.pcl.kind, .int .i64 x.pcl.wk.id, .int .i64 x.pcl.wk.at_, .int .i64 x.pcl.wk.coins, .int .i64 x.pcl.wk.seq, .int .i64 x.pcl.wk.last, .int .i64 x.pcl.coins, .int .i64 x.gst.src, .int .i64 x.gst.count, .int .i64 x.gst.wk.id, .int .i64 x.gst.wk.at_, .int .i64 x.gst.wk.coins, .int .i64 x.gst.wk.seq, .int .i64 x.gst.wk.last] 33 _ rfl (by rintro w9 ⟨t9, rfl⟩; (repeat (first | with_reducible refine blk_ext ?_ | with_reducible apply blk_drew)); exact alloc_last (by (try simp [go_sem]) <;> (try simp [Xt.add]) <;> omega)) Try.underlying33 rfl (by kernel_rfl) ?_); (try simp only [Act.put, List.setIfInBounds_toArray, List.set_cons_zero, List.set_cons_succ]))
      | (refine gap_pure rfl ?_; (first | go_big_quiet_skip | (go_big_quiet_want; go_big_quiet_op; go_big_quiet_on)); refine wpQuiet_nil ?_)
      | (refine gap_skip (by rfl) ?_; (try simp only [Act.put, List.setIfInBounds_toArray, List.set_cons_zero, List.set_cons_succ]))
      | (refine gap_mk rfl (by rfl) (fun V hV R hKR => ?_); (first | (go_simp; first | (go_at_call 8; refine (toMp_c _ _).mono ?_; rintro e w' ⟨rfl, t, rfl⟩) | (go_at_call 14; refine (toGwy_c _ _ _ _ _ (Re.of (Hid.out (by assumption)) (by ((try simp only [ext_drew]); (try simp only [ext_ext]); repeat (first | exact Ext.refl _ | with_reducible apply Ext.add | with_reducible apply Ext.dr | apply Ext.alloc | apply Ext.ext | apply Ext.drew | refine Ext.trans ?_ (by assumption))))) (by omega)).mono ?_; rintro e w' ⟨a0, c0, rfl, ⟨t, rfl⟩, ho⟩; have hR := re_Gwy ho.re; have hR0 := hid hR; clear hR; have hO := hid ho; clear ho) | (go_at_call 9; refine (toMsgX_c _ _).mono ?_; rintro e w' ⟨rfl, t, rfl⟩) | (go_at_call 20; refine (sGwyHear_c _ _ _ _ _ _ _ _ (Re.of (Hid.out (by assumption)) (by ((try simp only [ext_drew]); (try simp only [ext_ext]); repeat (first | exact Ext.refl _ | with_reducible apply Ext.add | with_reducible apply Ext.dr | apply Ext.alloc | apply Ext.ext | apply Ext.drew | refine Ext.trans ?_ (by assumption))))) (by omega)).mono ?_; rintro e w' ⟨a0, c0, rfl, ⟨t, rfl⟩, ho⟩; have hR := re_Gwy ho.re; have hR0 := hid hR; clear hR; have HOs := hid ho; clear ho) | skip)); (show R _ _); refine hKR _ _ (show Ext _ _ from (by ((try simp only [ext_drew]); (try simp only [ext_ext]); repeat (first | exact Ext.refl _ | with_reducible apply Ext.add | with_reducible apply Ext.dr | apply Ext.alloc | apply Ext.ext | apply Ext.drew | refine Ext.trans ?_ (by assumption))))) ?_; clear hKR R; (try simp only [Act.put, List.setIfInBounds_toArray, List.set_cons_zero, List.set_cons_succ])))
    refine gap_nil ?_
    intro V1 p1 hV1 hp1 hl1 hiv1
    refine ⟨_, rfl, rfl, by simp [Value.oneCell'], rfl, fun W1 hE1 hc1 hb1 => ?_⟩
    (try simp only [Act.put, List.setIfInBounds_toArray, List.set_cons_zero, List.set_cons_succ])
    repeat (refine mix_pure rfl ?_; (first | go_big_quiet_skip | (go_big_quiet_want; go_big_quiet_op; go_big_quiet_on)); refine wpQuiet_nil ?_)
    refine mix_nil ?_
    have EW1 : Ext W W1 := (by ((try simp only [ext_drew]); (try simp only [ext_ext]); repeat (first | exact Ext.refl _ | with_reducible apply Ext.add | with_reducible apply Ext.dr | apply Ext.alloc | apply Ext.ext | apply Ext.drew | refine Ext.trans ?_ (by assumption))))
    have lM1 : W.heap.size < W1.heap.size := Nat.lt_of_lt_of_le (by (try simp [go_sem]) <;> (try simp [Xt.add]) <;> omega) hE1.size
    have lB1 : W.heap.size + 1 < W1.heap.size := Nat.lt_of_lt_of_le (by (try simp [go_sem]) <;> (try simp [Xt.add]) <;> omega) hE1.size
    have lS1 : W.heap.size + 1 + 1 < W1.heap.size := Nat.lt_of_lt_of_le (by (try simp [go_sem]) <;> (try simp [Xt.add]) <;> omega) hE1.size
    have HM1 := hid (show W1.heap[W.heap.size + 1 + 1]? = some (.cells #[.int .i64 x.kind, .int .i64 x.to_, .int .i64 x.cell, .int .i64 x.side, .int .i64 x.n, .int .i64 x.ord.who, .int .i64 x.ord.seq, .int .i64 x.ord.kind, .int .i64 x.ord.to_, .int .i64 x.ord.n, .int .i64 x.pcl.n, .int .i64 x.pcl.kind, .int .i64 x.pcl.wk.id, .int .i64 x.pcl.wk.at_, .int .i64 x.pcl.wk.coins, .int .i64 x.pcl.wk.seq, .int .i64 x.pcl.wk.last, .int .i64 x.pcl.coins, .int .i64 x.gst.src, .int .i64 x.gst.count, .int .i64 x.gst.wk.id, .int .i64 x.gst.wk.at_, .int .i64 x.gst.wk.coins, .int .i64 x.gst.wk.seq, .int .i64 x.gst.wk.last] 33 (0, 0)) from (hE1.block (by (try simp [go_sem]) <;> (try simp [Xt.add]) <;> omega)).trans (by (repeat (first | with_reducible refine blk_ext ?_ | with_reducible apply blk_drew)); exact alloc_last (by (try simp [go_sem]) <;> (try simp [Xt.add]) <;> omega)))
    have cM01 : W1.cell? ⟨W.heap.size, 0, none⟩ = some (.int .i64 m.c) := (hE1.cell (by (try simp [go_sem]) <;> (try simp [Xt.add]) <;> omega) 0).trans (by simp [go_sem])
    have cM11 : W1.cell? ⟨W.heap.size, 1, none⟩ = some (.int .i64 m.w) := (hE1.cell (by (try simp [go_sem]) <;> (try simp [Xt.add]) <;> omega) 1).trans (by simp [go_sem])
    have cB01 : W1.cell? ⟨W.heap.size + 1, 0, none⟩ = some (.slice b_a b_n b_c) := (hE1.cell (by (try simp [go_sem]) <;> (try simp [Xt.add]) <;> omega) 0).trans (by simp [go_sem])
    have lp1 := lt_blk hb1
    have cp01 : W1.cell? ⟨p1, 0, none⟩ = some (.slice a0 (ghL m b s x).length c0) := (cell_blk hb1 0).trans rfl
    obtain ⟨lo1, hi1, hlo1, hhi1, hd1, hos⟩ := gap_own2 HOs.out hV1 hc1 (hiv1 _ (List.mem_cons_self)) (b0 := W.heap.size) (Ext.size (by ((try simp only [ext_drew]); (try simp only [ext_ext]); repeat (first | exact Ext.refl _ | with_reducible apply Ext.add | with_reducible apply Ext.dr | apply Ext.alloc | apply Ext.ext | apply Ext.drew | refine Ext.trans ?_ (by assumption)))))
    have HS1 := hid (re_Gwy hos.re)
    have HOs1 := hid hos
    clear hos HOs hE1 hc1 hb1 hiv1 hl1 hp1 hV1 hR0 hd1
    obtain ⟨sa, hsa⟩ : ∃ sa, sa = a0 := ⟨_, rfl⟩
    obtain ⟨sc, hsc⟩ : ∃ sc, sc = c0 := ⟨_, rfl⟩
    rw [← hsa, ← hsc] at cp01 HS1 HOs1 ⊢
    clear hsa hsc
    try go_wp2_with (first
        | (go_at_call 14; refine (toGwy_c _ _ _ _ _ (Re.of (Hid.out (by assumption)) (by ((try simp only [ext_drew]); (try simp only [ext_ext]); repeat (first | exact Ext.refl _ | with_reducible apply Ext.add | with_reducible apply Ext.dr | apply Ext.alloc | apply Ext.ext | apply Ext.drew | refine Ext.trans ?_ (by assumption))))) (by omega)).mono ?_; rintro e w' ⟨a0, c0, rfl, ⟨t, rfl⟩, ho⟩; have hR := re_Gwy ho.re; have hR0 := hid hR; clear hR; have hO := hid ho; clear ho)
        | (
          with_reducible refine wp_region_mix (by kernel_rfl) (by decide +kernel) ?_
          repeat (first
            | (refine mix_pure rfl ?_; (first | go_big_quiet_skip | (go_big_quiet_want; go_big_quiet_op; go_big_quiet_on)); refine wpQuiet_nil ?_)
            | (refine mix_skip (by rfl) ?_; (try simp only [Act.put, List.setIfInBounds_toArray, List.set_cons_zero, List.set_cons_succ]))
            | (refine mix_mk rfl (by rfl) (fun K hK => ?_); (first | (go_simp; first | (go_at_call 14; refine (toGwy_c _ _ _ _ _ (Re.of (Hid.out (by assumption)) (by ((try simp only [ext_drew]); (try simp only [ext_ext]); repeat (first | exact Ext.refl _ | with_reducible apply Ext.add | with_reducible apply Ext.dr | apply Ext.alloc | apply Ext.ext | apply Ext.drew | refine Ext.trans ?_ (by assumption))))) (by omega)).mono ?_; rintro e w' ⟨a0, c0, rfl, ⟨t, rfl⟩, ho⟩; have hR := re_Gwy ho.re; have hR0 := hid hR; clear hR; have hO := hid ho; clear ho) | skip)); (show K _ _); refine hK _ _ (show Ext _ _ from (by ((try simp only [ext_drew]); (try simp only [ext_ext]); repeat (first | exact Ext.refl _ | with_reducible apply Ext.add | with_reducible apply Ext.dr | apply Ext.alloc | apply Ext.ext | apply Ext.drew | refine Ext.trans ?_ (by assumption))))) ?_; clear hK K; (try simp only [Act.put, List.setIfInBounds_toArray, List.set_cons_zero, List.set_cons_succ])))
          refine mix_nil ?_)
        | (
          with_reducible refine wp_region_ext (by kernel_rfl) (by kernel_rfl) ?_
          repeat (first | go_big_quiet_skip | (go_big_quiet_want; go_big_quiet_op; first | go_big_quiet_on | (apply Exists.intro; refine ⟨fun _ => ?_, ?_⟩; ((first | (go_at_call 14; first | exact quiet_call (toGwy_c _ _ _ _ _ (Re.of (Hid.out (by assumption)) (by ((try simp only [ext_drew]); (try simp only [ext_ext]); repeat (first | exact Ext.refl _ | with_reducible apply Ext.add | with_reducible apply Ext.dr | apply Ext.alloc | apply Ext.ext | apply Ext.drew | refine Ext.trans ?_ (by assumption))))) (by omega)) | exact quiet_call2 (toGwy_c _ _ _ _ _ (Re.of (Hid.out (by assumption)) (by ((try simp only [ext_drew]); (try simp only [ext_ext]); repeat (first | exact Ext.refl _ | with_reducible apply Ext.add | with_reducible apply Ext.dr | apply Ext.alloc | apply Ext.ext | apply Ext.drew | refine Ext.trans ?_ (by assumption))))) (by omega))))); (try rw [h1]); (try rw [h2]); (try rw [h3]); (try rw [h4]); (try rw [p1]); (try rw [p2]); (try rw [p3]); (try rw [p4]); (try rw [r1]); (try rw [r2]); (try rw [r3]); (try rw [r4]); (try rw [r5]); (try rw [r6]); (try rw [q3]); (try rw [q4]); (try rw [hp]); (try rw [hq]); go_big_quiet_on)))
          refine wpQuiet_nil ?_
          rintro _ ⟨tq, rfl⟩))
    refine wp_gen fun X1 hX1 => ?_
    generalize hXe : W1.heap.size + t.bs.size = X
    have EX : Ext W1 X1 := by rw [hX1]; ((try simp only [ext_drew]); (try simp only [ext_ext]); repeat (first | exact Ext.refl _ | with_reducible apply Ext.add | with_reducible apply Ext.dr | apply Ext.alloc | apply Ext.ext | apply Ext.drew | refine Ext.trans ?_ (by assumption)))
    have lX : X < X1.heap.size := by rw [← hXe, hX1]; ((try simp [go_sem]) <;> (try simp [Xt.add]) <;> omega)
    have hWX : W1.heap.size ≤ X := by omega
    have cX : X1.cell? ⟨X, 0, none⟩ = some (.slice a0 b_n c0) := by rw [← hXe, hX1]; simp [go_sem]
    have hox := OwnR.mono (lo' := W1.heap.size) (hi' := X) (OwnR.of hO.out (w' := X1) (by rw [hX1]; ((try simp only [ext_drew]); (try simp only [ext_ext]); repeat (first | exact Ext.refl _ | with_reducible apply Ext.add | with_reducible apply Ext.dr | apply Ext.alloc | apply Ext.ext | apply Ext.drew | refine Ext.trans ?_ (by assumption))))) (by (try simp [go_sem]) <;> (try simp [Xt.add]) <;> omega) (by rw [← hXe]; ((try simp [go_sem]) <;> (try simp [Xt.add]) <;> omega)) (Nat.le_of_lt lX)
    have HSx := hid (re_Gwy hox.re)
    have HOx := hid hox
    clear hox hO hR0 hX1 hXe
    have lMX := Nat.lt_of_lt_of_le lM1 EX.size
    have lSX := Nat.lt_of_lt_of_le lS1 EX.size
    have HMX := hid ((EX.block lS1).trans HM1.out)
    have cM0X := (EX.cell lM1 0).trans cM01
    have cM1X := (EX.cell lM1 1).trans cM11
    have lBX := Nat.lt_of_lt_of_le lB1 EX.size
    have cB0X := (EX.cell lB1 0).trans cB01
    have lpX := Nat.lt_of_lt_of_le lp1 EX.size
    have cpX := (EX.cell lp1 0).trans cp01
    have HOsX := hid (HOs1.out.of EX)
    have HSsX := hid (re_Gwy HOsX.out.re)
    obtain ⟨xa, hxa⟩ : ∃ xa, xa = a0 := ⟨_, rfl⟩
    obtain ⟨xc, hxc⟩ : ∃ xc, xc = c0 := ⟨_, rfl⟩
    rw [← hxa, ← hxc] at cX HSx HOx ⊢
    clear hxa hxc
    clear HOs1 HS1 cp01 cM01 cM11 cB01
    refine wp_region_gapT' 10 11 #[.slice none 0 0] 59 (by kernel_rfl) (by decide +kernel) (by kernel_rfl) rfl (by kernel_rfl) rfl rfl rfl rfl rfl rfl rfl rfl (fun a w => by go_simp) ?_
    simp only [List.take_succ_cons, List.take_zero, List.eraseIdx_cons_succ, List.eraseIdx_cons_zero, List.drop_succ_cons, List.drop_zero]
    repeat (first
      | (((with_reducible refine gapload_gate (T1 := 33) ?_); refine gap_loadW (by rfl) _ _ rfl (W.heap.size + 1 + 1) #[.int .i64 x.kind, .int .i64 x.to_, .int .i64 x.cell, .int .i64 x.side, .int .i64 x.n, .int .i64 x.ord.who, .int .i64 x.ord.seq, .int .i64 x.ord.kind, .int .i64 x.ord.to_, .int .i64 x.ord.n, .int .i64 x.pcl.n, .int .i64 x.pcl.kind, .int .i64 x.pcl.wk.id, .int .i64 x.pcl.wk.at_, .int .i64 x.pcl.wk.coins, .int .i64 x.pcl.wk.seq, .int .i64 x.pcl.wk.last, .int .i64 x.pcl.coins, .int .i64 x.gst.src, .int .i64 x.gst.count, .int .i64 x.gst.wk.id, .int .i64 x.gst.wk.at_, .int .i64 x.gst.wk.coins, .int .i64 x.gst.wk.seq, .int .i64 x.gst.wk.last] 33 _ rfl (by rintro w9 ⟨t9, rfl⟩; (repeat (first | with_reducible refine blk_ext ?_ | with_reducible apply blk_drew)); exact HMX.out) Try.underlying33 rfl (by kernel_rfl) ?_); (try simp only [Act.put, List.setIfInBounds_toArray, List.set_cons_zero, List.set_cons_succ]))
      | (refine gap_pure rfl ?_; (first | go_big_quiet_skip | (go_big_quiet_want; go_big_quiet_op; go_big_quiet_on)); refine wpQuiet_nil ?_)
      | (refine gap_skip (by rfl) ?_; (try simp only [Act.put, List.setIfInBounds_toArray, List.set_cons_zero, List.set_cons_succ]))
      | (refine gap_mk rfl (by rfl) (fun V hV R hKR => ?_); (first | (go_simp; first | (go_at_call 8; refine (toMp_c _ _).mono ?_; rintro e w' ⟨rfl, t, rfl⟩) | (go_at_call 9; refine (toMsgX_c _ _).mono ?_; rintro e w' ⟨rfl, t, rfl⟩) | (go_at_call 21; refine (iGwyHear_c _ _ _ _ _ _ _ _ (Re.of (Hid.out (by assumption)) (by ((try simp only [ext_drew]); (try simp only [ext_ext]); repeat (first | exact Ext.refl _ | with_reducible apply Ext.add | with_reducible apply Ext.dr | apply Ext.alloc | apply Ext.ext | apply Ext.drew | refine Ext.trans ?_ (by assumption))))) (by omega)).mono ?_; rintro e w' ⟨a0, c0, rfl, ⟨t, rfl⟩, ho⟩; have hR := re_Gwy ho.re; have hR0 := hid hR; clear hR; have HOi := hid ho; clear ho) | skip)); (show R _ _); refine hKR _ _ (show Ext _ _ from (by ((try simp only [ext_drew]); (try simp only [ext_ext]); repeat (first | exact Ext.refl _ | with_reducible apply Ext.add | with_reducible apply Ext.dr | apply Ext.alloc | apply Ext.ext | apply Ext.drew | refine Ext.trans ?_ (by assumption))))) ?_; clear hKR R; (try simp only [Act.put, List.setIfInBounds_toArray, List.set_cons_zero, List.set_cons_succ])))
    refine gap_nil ?_
    intro V2 p2 hV2 hp2 hl2 hiv2
    refine ⟨_, rfl, rfl, by simp [Value.oneCell'], rfl, fun W2 hE2 hc2 hb2 => ?_⟩
    (try simp only [Act.put, List.setIfInBounds_toArray, List.set_cons_zero, List.set_cons_succ])
    repeat (refine mix_pure rfl ?_; (first | go_big_quiet_skip | (go_big_quiet_want; go_big_quiet_op; go_big_quiet_on)); refine wpQuiet_nil ?_)
    refine mix_nil ?_
    have EW2 : Ext X1 W2 := (by ((try simp only [ext_drew]); (try simp only [ext_ext]); repeat (first | exact Ext.refl _ | with_reducible apply Ext.add | with_reducible apply Ext.dr | apply Ext.alloc | apply Ext.ext | apply Ext.drew | refine Ext.trans ?_ (by assumption))))
    have lM2 := Nat.lt_of_lt_of_le lMX EW2.size
    have lS2 := Nat.lt_of_lt_of_le lSX EW2.size
    have HMW2 := hid ((EW2.block lSX).trans HMX.out)
    have cM02 := (EW2.cell lMX 0).trans cM0X
    have cM12 := (EW2.cell lMX 1).trans cM1X
    have lB2 := Nat.lt_of_lt_of_le lBX EW2.size
    have cB02 := (EW2.cell lBX 0).trans cB0X
    have lp12 := Nat.lt_of_lt_of_le lpX EW2.size
    have cp12 := (EW2.cell lpX 0).trans cpX
    have lX2 := Nat.lt_of_lt_of_le lX EW2.size
    have cX2 := (EW2.cell lX 0).trans cX
    have lp2 := lt_blk hb2
    have cp2 : W2.cell? ⟨p2, 0, none⟩ = some (.slice a0 (ghL m b s x).length c0) := (cell_blk hb2 0).trans rfl
    have hXp2 : X < p2 := Nat.lt_of_lt_of_le lX hp2
    obtain ⟨lo2, hi2, hlo2, hhi2, hd2, hoi⟩ := gap_own2 HOi.out hV2 hc2 (hiv2 _ (List.mem_cons_self)) (b0 := X1.heap.size) (Ext.size (by ((try simp only [ext_drew]); (try simp only [ext_ext]); repeat (first | exact Ext.refl _ | with_reducible apply Ext.add | with_reducible apply Ext.dr | apply Ext.alloc | apply Ext.ext | apply Ext.drew | refine Ext.trans ?_ (by assumption)))))
    have HOi0 := hid hoi
    have HSi0 := hid (re_Gwy hoi.re)
    have HOs0 := hid (HOsX.out.of EW2)
    have HSs0 := hid (re_Gwy HOs0.out.re)
    have HOx0 := hid (HOx.out.of EW2)
    have HSx0 := hid (re_Gwy HOx0.out.re)
    clear hoi HOi hE2 hc2 hb2 hiv2 hl2 hp2 hV2 hR0 HOsX HSsX HOx HSx cpX cX cM0X cM1X cB0X
    obtain ⟨ia, hia⟩ : ∃ ia, ia = a0 := ⟨_, rfl⟩
    obtain ⟨ic, hic⟩ : ∃ ic, ic = c0 := ⟨_, rfl⟩
    rw [← hia, ← hic] at cp2 HSi0 HOi0 ⊢
    clear hia hic
    try go_wp2_with (first
        | (go_at_call 18; refine (eqGwy_c _ _ _ _ _ _ _ (Re.of (Hid.out (by assumption)) (by ((try simp only [ext_drew]); (try simp only [ext_ext]); repeat (first | exact Ext.refl _ | with_reducible apply Ext.add | with_reducible apply Ext.dr | apply Ext.alloc | apply Ext.ext | apply Ext.drew | refine Ext.trans ?_ (by assumption))))) (Re.of (Hid.out (by assumption)) (by ((try simp only [ext_drew]); (try simp only [ext_ext]); repeat (first | exact Ext.refl _ | with_reducible apply Ext.add | with_reducible apply Ext.dr | apply Ext.alloc | apply Ext.ext | apply Ext.drew | refine Ext.trans ?_ (by assumption))))) (by omega)).mono ?_; rintro e w' ⟨rfl, t, rfl⟩) | (go_at_call 14; refine (toGwy_c _ _ _ _ _ (Re.of (Hid.out (by assumption)) (by ((try simp only [ext_drew]); (try simp only [ext_ext]); repeat (first | exact Ext.refl _ | with_reducible apply Ext.add | with_reducible apply Ext.dr | apply Ext.alloc | apply Ext.ext | apply Ext.drew | refine Ext.trans ?_ (by assumption))))) (by omega)).mono ?_; rintro e w' ⟨a0, c0, rfl, ⟨t, rfl⟩, ho⟩; have hR := re_Gwy ho.re; have hR0 := hid hR; clear hR; have hO := hid ho; clear ho)
        | (
          with_reducible refine wp_region_mix (by kernel_rfl) (by decide +kernel) ?_
          repeat (first
            | (refine mix_pure rfl ?_; (first | go_big_quiet_skip | (go_big_quiet_want; go_big_quiet_op; go_big_quiet_on)); refine wpQuiet_nil ?_)
            | (refine mix_skip (by rfl) ?_; (try simp only [Act.put, List.setIfInBounds_toArray, List.set_cons_zero, List.set_cons_succ]))
            | (refine mix_mk rfl (by rfl) (fun K hK => ?_); (first | (go_simp; first | (go_at_call 18; refine (eqGwy_c _ _ _ _ _ _ _ (Re.of (Hid.out (by assumption)) (by ((try simp only [ext_drew]); (try simp only [ext_ext]); repeat (first | exact Ext.refl _ | with_reducible apply Ext.add | with_reducible apply Ext.dr | apply Ext.alloc | apply Ext.ext | apply Ext.drew | refine Ext.trans ?_ (by assumption))))) (Re.of (Hid.out (by assumption)) (by ((try simp only [ext_drew]); (try simp only [ext_ext]); repeat (first | exact Ext.refl _ | with_reducible apply Ext.add | with_reducible apply Ext.dr | apply Ext.alloc | apply Ext.ext | apply Ext.drew | refine Ext.trans ?_ (by assumption))))) (by omega)).mono ?_; rintro e w' ⟨rfl, t, rfl⟩) | (go_at_call 14; refine (toGwy_c _ _ _ _ _ (Re.of (Hid.out (by assumption)) (by ((try simp only [ext_drew]); (try simp only [ext_ext]); repeat (first | exact Ext.refl _ | with_reducible apply Ext.add | with_reducible apply Ext.dr | apply Ext.alloc | apply Ext.ext | apply Ext.drew | refine Ext.trans ?_ (by assumption))))) (by omega)).mono ?_; rintro e w' ⟨a0, c0, rfl, ⟨t, rfl⟩, ho⟩; have hR := re_Gwy ho.re; have hR0 := hid hR; clear hR; have hO := hid ho; clear ho) | skip)); (show K _ _); refine hK _ _ (show Ext _ _ from (by ((try simp only [ext_drew]); (try simp only [ext_ext]); repeat (first | exact Ext.refl _ | with_reducible apply Ext.add | with_reducible apply Ext.dr | apply Ext.alloc | apply Ext.ext | apply Ext.drew | refine Ext.trans ?_ (by assumption))))) ?_; clear hK K; (try simp only [Act.put, List.setIfInBounds_toArray, List.set_cons_zero, List.set_cons_succ])))
          refine mix_nil ?_)
        | (
          with_reducible refine wp_region_ext (by kernel_rfl) (by kernel_rfl) ?_
          repeat (first | go_big_quiet_skip | (go_big_quiet_want; go_big_quiet_op; first | go_big_quiet_on | (apply Exists.intro; refine ⟨fun _ => ?_, ?_⟩; ((first | (go_at_call 18; first | exact quiet_call (eqGwy_c _ _ _ _ _ _ _ (Re.of (Hid.out (by assumption)) (by ((try simp only [ext_drew]); (try simp only [ext_ext]); repeat (first | exact Ext.refl _ | with_reducible apply Ext.add | with_reducible apply Ext.dr | apply Ext.alloc | apply Ext.ext | apply Ext.drew | refine Ext.trans ?_ (by assumption))))) (Re.of (Hid.out (by assumption)) (by ((try simp only [ext_drew]); (try simp only [ext_ext]); repeat (first | exact Ext.refl _ | with_reducible apply Ext.add | with_reducible apply Ext.dr | apply Ext.alloc | apply Ext.ext | apply Ext.drew | refine Ext.trans ?_ (by assumption))))) (by omega)) | exact quiet_call2 (eqGwy_c _ _ _ _ _ _ _ (Re.of (Hid.out (by assumption)) (by ((try simp only [ext_drew]); (try simp only [ext_ext]); repeat (first | exact Ext.refl _ | with_reducible apply Ext.add | with_reducible apply Ext.dr | apply Ext.alloc | apply Ext.ext | apply Ext.drew | refine Ext.trans ?_ (by assumption))))) (Re.of (Hid.out (by assumption)) (by ((try simp only [ext_drew]); (try simp only [ext_ext]); repeat (first | exact Ext.refl _ | with_reducible apply Ext.add | with_reducible apply Ext.dr | apply Ext.alloc | apply Ext.ext | apply Ext.drew | refine Ext.trans ?_ (by assumption))))) (by omega))) | (go_at_call 14; first | exact quiet_call (toGwy_c _ _ _ _ _ (Re.of (Hid.out (by assumption)) (by ((try simp only [ext_drew]); (try simp only [ext_ext]); repeat (first | exact Ext.refl _ | with_reducible apply Ext.add | with_reducible apply Ext.dr | apply Ext.alloc | apply Ext.ext | apply Ext.drew | refine Ext.trans ?_ (by assumption))))) (by omega)) | exact quiet_call2 (toGwy_c _ _ _ _ _ (Re.of (Hid.out (by assumption)) (by ((try simp only [ext_drew]); (try simp only [ext_ext]); repeat (first | exact Ext.refl _ | with_reducible apply Ext.add | with_reducible apply Ext.dr | apply Ext.alloc | apply Ext.ext | apply Ext.drew | refine Ext.trans ?_ (by assumption))))) (by omega))))); (try rw [h1]); (try rw [h2]); (try rw [h3]); (try rw [h4]); (try rw [p1]); (try rw [p2]); (try rw [p3]); (try rw [p4]); (try rw [r1]); (try rw [r2]); (try rw [r3]); (try rw [r4]); (try rw [r5]); (try rw [r6]); (try rw [q3]); (try rw [q4]); (try rw [hp]); (try rw [hq]); go_big_quiet_on)))
          refine wpQuiet_nil ?_
          rintro _ ⟨tq, rfl⟩))
    refine (markGwy_c _ _ _ _ _ _ _ _ (HOx0.out.of (by ((try simp only [ext_drew]); (try simp only [ext_ext]); repeat (first | exact Ext.refl _ | with_reducible apply Ext.add | with_reducible apply Ext.dr | apply Ext.alloc | apply Ext.ext | apply Ext.drew | refine Ext.trans ?_ (by assumption))))) (by omega) (by omega) (by omega)).mono ?_
    rintro e M1 ⟨rfl, hx1, hk1⟩
    have hX1 : X < X1.heap.size := lX
    have HMM1 := hid ((hk1.block _ (by rw [ext_size]; omega) (by omega)).trans (blk_ext HMW2.out))
    have mS : W.heap.size + 1 + 1 < M1.heap.size := lt_blk HMM1.out
    have dM0 := (hk1.cell (b := W.heap.size) (by rw [ext_size]; omega) (by omega) 0).trans ((ext_cell' _ _ _ _ lM2).trans cM02)
    have dM1 := (hk1.cell (b := W.heap.size) (by rw [ext_size]; omega) (by omega) 1).trans ((ext_cell' _ _ _ _ lM2).trans cM12)
    have dB0 := (hk1.cell (b := W.heap.size + 1) (by rw [ext_size]; omega) (by omega) 0).trans ((ext_cell' _ _ _ _ lB2).trans cB02)
    have dp1 := (hk1.cell (b := p1) (by rw [ext_size]; omega) (by omega) 0).trans ((ext_cell' _ _ _ _ lp12).trans cp12)
    have dp2 := (hk1.cell (b := p2) (by rw [ext_size]; omega) (by omega) 0).trans ((ext_cell' _ _ _ _ lp2).trans cp2)
    have dX := (hk1.cell (b := X) (by rw [ext_size]; omega) (by omega) 0).trans ((ext_cell' _ _ _ _ lX2).trans cX2)
    have mM : W.heap.size < M1.heap.size := Nat.lt_of_lt_of_le (by rw [ext_size]; omega) hk1.size
    have mB : W.heap.size + 1 < M1.heap.size := Nat.lt_of_lt_of_le (by rw [ext_size]; omega) hk1.size
    have mp1 : p1 < M1.heap.size := Nat.lt_of_lt_of_le (by rw [ext_size]; omega) hk1.size
    have mp2 : p2 < M1.heap.size := Nat.lt_of_lt_of_le (by rw [ext_size]; omega) hk1.size
    have mX : X < M1.heap.size := Nat.lt_of_lt_of_le (by rw [ext_size]; omega) hk1.size
    have HB1 := hid (bel_chg (W := W) (Ext.below (by ((try simp only [ext_drew]); (try simp only [ext_ext]); repeat (first | exact Ext.refl _ | with_reducible apply Ext.add | with_reducible apply Ext.dr | apply Ext.alloc | apply Ext.ext | apply Ext.drew | refine Ext.trans ?_ (by assumption))))) hk1 EW1.size)
    have HOs3 := hid (OwnR.chg (HOs0.out.of (by ((try simp only [ext_drew]); (try simp only [ext_ext]); repeat (first | exact Ext.refl _ | with_reducible apply Ext.add | with_reducible apply Ext.dr | apply Ext.alloc | apply Ext.ext | apply Ext.drew | refine Ext.trans ?_ (by assumption))))) hk1 (.inl hhi1))
    have HOi3 := hid (OwnR.chg (HOi0.out.of (by ((try simp only [ext_drew]); (try simp only [ext_ext]); repeat (first | exact Ext.refl _ | with_reducible apply Ext.add | with_reducible apply Ext.dr | apply Ext.alloc | apply Ext.ext | apply Ext.drew | refine Ext.trans ?_ (by assumption))))) hk1 (by omega))
    have HSs3 := hid (re_Gwy HOs3.out.re)
    have HSi3 := hid (re_Gwy HOi3.out.re)
    clear hx1 hk1 HOs0 HOi0 HSs0 HSi0 HOx0 HSx0 cM02 cM12 cB02 cp12 cp2 cX2
    try go_wp2_with (first
        | (go_at_call 18; refine (eqGwy_c _ _ _ _ _ _ _ (Re.of (Hid.out (by assumption)) (by ((try simp only [ext_drew]); (try simp only [ext_ext]); repeat (first | exact Ext.refl _ | with_reducible apply Ext.add | with_reducible apply Ext.dr | apply Ext.alloc | apply Ext.ext | apply Ext.drew | refine Ext.trans ?_ (by assumption))))) (Re.of (Hid.out (by assumption)) (by ((try simp only [ext_drew]); (try simp only [ext_ext]); repeat (first | exact Ext.refl _ | with_reducible apply Ext.add | with_reducible apply Ext.dr | apply Ext.alloc | apply Ext.ext | apply Ext.drew | refine Ext.trans ?_ (by assumption))))) (by omega)).mono ?_; rintro e w' ⟨rfl, t, rfl⟩)
        | (
          with_reducible refine wp_region_mix (by kernel_rfl) (by decide +kernel) ?_
          repeat (first
            | (refine mix_pure rfl ?_; (first | go_big_quiet_skip | (go_big_quiet_want; go_big_quiet_op; go_big_quiet_on)); refine wpQuiet_nil ?_)
            | (refine mix_skip (by rfl) ?_; (try simp only [Act.put, List.setIfInBounds_toArray, List.set_cons_zero, List.set_cons_succ]))
            | (refine mix_mk rfl (by rfl) (fun K hK => ?_); (first | (go_simp; first | (go_at_call 18; refine (eqGwy_c _ _ _ _ _ _ _ (Re.of (Hid.out (by assumption)) (by ((try simp only [ext_drew]); (try simp only [ext_ext]); repeat (first | exact Ext.refl _ | with_reducible apply Ext.add | with_reducible apply Ext.dr | apply Ext.alloc | apply Ext.ext | apply Ext.drew | refine Ext.trans ?_ (by assumption))))) (Re.of (Hid.out (by assumption)) (by ((try simp only [ext_drew]); (try simp only [ext_ext]); repeat (first | exact Ext.refl _ | with_reducible apply Ext.add | with_reducible apply Ext.dr | apply Ext.alloc | apply Ext.ext | apply Ext.drew | refine Ext.trans ?_ (by assumption))))) (by omega)).mono ?_; rintro e w' ⟨rfl, t, rfl⟩) | skip)); (show K _ _); refine hK _ _ (show Ext _ _ from (by ((try simp only [ext_drew]); (try simp only [ext_ext]); repeat (first | exact Ext.refl _ | with_reducible apply Ext.add | with_reducible apply Ext.dr | apply Ext.alloc | apply Ext.ext | apply Ext.drew | refine Ext.trans ?_ (by assumption))))) ?_; clear hK K; (try simp only [Act.put, List.setIfInBounds_toArray, List.set_cons_zero, List.set_cons_succ])))
          refine mix_nil ?_)
        | (
          with_reducible refine wp_region_ext (by kernel_rfl) (by kernel_rfl) ?_
          repeat (first | go_big_quiet_skip | (go_big_quiet_want; go_big_quiet_op; first | go_big_quiet_on | (apply Exists.intro; refine ⟨fun _ => ?_, ?_⟩; ((first | (go_at_call 18; first | exact quiet_call (eqGwy_c _ _ _ _ _ _ _ (Re.of (Hid.out (by assumption)) (by ((try simp only [ext_drew]); (try simp only [ext_ext]); repeat (first | exact Ext.refl _ | with_reducible apply Ext.add | with_reducible apply Ext.dr | apply Ext.alloc | apply Ext.ext | apply Ext.drew | refine Ext.trans ?_ (by assumption))))) (Re.of (Hid.out (by assumption)) (by ((try simp only [ext_drew]); (try simp only [ext_ext]); repeat (first | exact Ext.refl _ | with_reducible apply Ext.add | with_reducible apply Ext.dr | apply Ext.alloc | apply Ext.ext | apply Ext.drew | refine Ext.trans ?_ (by assumption))))) (by omega)) | exact quiet_call2 (eqGwy_c _ _ _ _ _ _ _ (Re.of (Hid.out (by assumption)) (by ((try simp only [ext_drew]); (try simp only [ext_ext]); repeat (first | exact Ext.refl _ | with_reducible apply Ext.add | with_reducible apply Ext.dr | apply Ext.alloc | apply Ext.ext | apply Ext.drew | refine Ext.trans ?_ (by assumption))))) (Re.of (Hid.out (by assumption)) (by ((try simp only [ext_drew]); (try simp only [ext_ext]); repeat (first | exact Ext.refl _ | with_reducible apply Ext.add | with_reducible apply Ext.dr | apply Ext.alloc | apply Ext.ext | apply Ext.drew | refine Ext.trans ?_ (by assumption))))) (by omega))))); (try rw [h1]); (try rw [h2]); (try rw [h3]); (try rw [h4]); (try rw [p1]); (try rw [p2]); (try rw [p3]); (try rw [p4]); (try rw [r1]); (try rw [r2]); (try rw [r3]); (try rw [r4]); (try rw [r5]); (try rw [r6]); (try rw [q3]); (try rw [q4]); (try rw [hp]); (try rw [hq]); go_big_quiet_on)))
          refine wpQuiet_nil ?_
          rintro _ ⟨tq, rfl⟩))
    refine (markGwy_c _ _ _ _ _ _ _ _ (HOi3.out.of (by ((try simp only [ext_drew]); (try simp only [ext_ext]); repeat (first | exact Ext.refl _ | with_reducible apply Ext.add | with_reducible apply Ext.dr | apply Ext.alloc | apply Ext.ext | apply Ext.drew | refine Ext.trans ?_ (by assumption))))) (by omega) (by omega) (by omega)).mono ?_
    rintro e M2 ⟨rfl, hx2, hk2⟩
    have HMM2 := hid ((hk2.block _ (by rw [ext_size]; omega) (by omega)).trans (blk_ext HMM1.out))
    have eM0 := (hk2.cell (b := W.heap.size) (by rw [ext_size]; omega) (by omega) 0).trans ((ext_cell' _ _ _ _ mM).trans dM0)
    have eM1 := (hk2.cell (b := W.heap.size) (by rw [ext_size]; omega) (by omega) 1).trans ((ext_cell' _ _ _ _ mM).trans dM1)
    have eB0 := (hk2.cell (b := W.heap.size + 1) (by rw [ext_size]; omega) (by omega) 0).trans ((ext_cell' _ _ _ _ mB).trans dB0)
    have ep1 := (hk2.cell (b := p1) (by rw [ext_size]; omega) (by omega) 0).trans ((ext_cell' _ _ _ _ mp1).trans dp1)
    have ep2 := (hk2.cell (b := p2) (by rw [ext_size]; omega) (by omega) 0).trans ((ext_cell' _ _ _ _ mp2).trans dp2)
    have eX := (hk2.cell (b := X) (by rw [ext_size]; omega) (by omega) 0).trans ((ext_cell' _ _ _ _ mX).trans dX)
    have nM : W.heap.size < M2.heap.size := Nat.lt_of_lt_of_le (by rw [ext_size]; omega) hk2.size
    have nB : W.heap.size + 1 < M2.heap.size := Nat.lt_of_lt_of_le (by rw [ext_size]; omega) hk2.size
    have np1 : p1 < M2.heap.size := Nat.lt_of_lt_of_le (by rw [ext_size]; omega) hk2.size
    have np2 : p2 < M2.heap.size := Nat.lt_of_lt_of_le (by rw [ext_size]; omega) hk2.size
    have nX : X < M2.heap.size := Nat.lt_of_lt_of_le (by rw [ext_size]; omega) hk2.size
    have HB2 := hid (bel_chg (W := W) (bel_ext HB1.out (by ((try simp only [ext_drew]); (try simp only [ext_ext]); repeat (first | exact Ext.refl _ | with_reducible apply Ext.add | with_reducible apply Ext.dr | apply Ext.alloc | apply Ext.ext | apply Ext.drew | refine Ext.trans ?_ (by assumption))))) hk2 (by have := EW1.size; omega))
    have HOs4 := hid (OwnR.chg (HOs3.out.of (by ((try simp only [ext_drew]); (try simp only [ext_ext]); repeat (first | exact Ext.refl _ | with_reducible apply Ext.add | with_reducible apply Ext.dr | apply Ext.alloc | apply Ext.ext | apply Ext.drew | refine Ext.trans ?_ (by assumption))))) hk2 (by omega))
    have HSs4 := hid (re_Gwy HOs4.out.re)
    have HR4 := hid hx2.re
    have H_b' := hid (Re.below H_b.out HB2.out)
    clear hx2 hk2 HOs3 HOi3 HSs3 HSi3 HB1 dM0 dM1 dB0 dp1 dp2 dX
    try go_wp2_with (first
        | (go_at_call 23; refine (heldGwy_c _ _ _ _ _ (Re.of (Hid.out (by assumption)) (by ((try simp only [ext_drew]); (try simp only [ext_ext]); repeat (first | exact Ext.refl _ | with_reducible apply Ext.add | with_reducible apply Ext.dr | apply Ext.alloc | apply Ext.ext | apply Ext.drew | refine Ext.trans ?_ (by assumption))))) (by omega) (by omega) (by omega)).mono ?_; rintro e w' ⟨rfl, t, rfl⟩)
        | (
          with_reducible refine wp_region_mix (by kernel_rfl) (by decide +kernel) ?_
          repeat (first
            | (refine mix_pure rfl ?_; (first | go_big_quiet_skip | (go_big_quiet_want; go_big_quiet_op; go_big_quiet_on)); refine wpQuiet_nil ?_)
            | (refine mix_skip (by rfl) ?_; (try simp only [Act.put, List.setIfInBounds_toArray, List.set_cons_zero, List.set_cons_succ]))
            | (refine mix_mk rfl (by rfl) (fun K hK => ?_); (first | (go_simp; first | (go_at_call 23; refine (heldGwy_c _ _ _ _ _ (Re.of (Hid.out (by assumption)) (by ((try simp only [ext_drew]); (try simp only [ext_ext]); repeat (first | exact Ext.refl _ | with_reducible apply Ext.add | with_reducible apply Ext.dr | apply Ext.alloc | apply Ext.ext | apply Ext.drew | refine Ext.trans ?_ (by assumption))))) (by omega) (by omega) (by omega)).mono ?_; rintro e w' ⟨rfl, t, rfl⟩) | skip)); (show K _ _); refine hK _ _ (show Ext _ _ from (by ((try simp only [ext_drew]); (try simp only [ext_ext]); repeat (first | exact Ext.refl _ | with_reducible apply Ext.add | with_reducible apply Ext.dr | apply Ext.alloc | apply Ext.ext | apply Ext.drew | refine Ext.trans ?_ (by assumption))))) ?_; clear hK K; (try simp only [Act.put, List.setIfInBounds_toArray, List.set_cons_zero, List.set_cons_succ])))
          refine mix_nil ?_)
        | (
          with_reducible refine wp_region_ext (by kernel_rfl) (by kernel_rfl) ?_
          repeat (first | go_big_quiet_skip | (go_big_quiet_want; go_big_quiet_op; first | go_big_quiet_on | (apply Exists.intro; refine ⟨fun _ => ?_, ?_⟩; ((first | (go_at_call 23; first | exact quiet_call (heldGwy_c _ _ _ _ _ (Re.of (Hid.out (by assumption)) (by ((try simp only [ext_drew]); (try simp only [ext_ext]); repeat (first | exact Ext.refl _ | with_reducible apply Ext.add | with_reducible apply Ext.dr | apply Ext.alloc | apply Ext.ext | apply Ext.drew | refine Ext.trans ?_ (by assumption))))) (by omega) (by omega) (by omega)) | exact quiet_call2 (heldGwy_c _ _ _ _ _ (Re.of (Hid.out (by assumption)) (by ((try simp only [ext_drew]); (try simp only [ext_ext]); repeat (first | exact Ext.refl _ | with_reducible apply Ext.add | with_reducible apply Ext.dr | apply Ext.alloc | apply Ext.ext | apply Ext.drew | refine Ext.trans ?_ (by assumption))))) (by omega) (by omega) (by omega))))); (try rw [h1]); (try rw [h2]); (try rw [h3]); (try rw [h4]); (try rw [p1]); (try rw [p2]); (try rw [p3]); (try rw [p4]); (try rw [r1]); (try rw [r2]); (try rw [r3]); (try rw [r4]); (try rw [r5]); (try rw [r6]); (try rw [q3]); (try rw [q4]); (try rw [hp]); (try rw [hq]); go_big_quiet_on)))
          refine wpQuiet_nil ?_
          rintro _ ⟨tq, rfl⟩))
    refine wp_region_gapT' 11 12 #[.slice none 0 0] 59 (by kernel_rfl) (by decide +kernel) (by kernel_rfl) rfl (by kernel_rfl) rfl rfl rfl rfl rfl rfl rfl rfl (fun a w => by go_simp) ?_
    simp only [List.take_succ_cons, List.take_zero, List.eraseIdx_cons_succ, List.eraseIdx_cons_zero, List.drop_succ_cons, List.drop_zero]
    repeat (first
      | (((with_reducible refine gapload_gate (T1 := 33) ?_); refine gap_loadW (by rfl) _ _ rfl (W.heap.size + 1 + 1) #[.int .i64 x.kind, .int .i64 x.to_, .int .i64 x.cell, .int .i64 x.side, .int .i64 x.n, .int .i64 x.ord.who, .int .i64 x.ord.seq, .int .i64 x.ord.kind, .int .i64 x.ord.to_, .int .i64 x.ord.n, .int .i64 x.pcl.n, .int .i64 x.pcl.kind, .int .i64 x.pcl.wk.id, .int .i64 x.pcl.wk.at_, .int .i64 x.pcl.wk.coins, .int .i64 x.pcl.wk.seq, .int .i64 x.pcl.wk.last, .int .i64 x.pcl.coins, .int .i64 x.gst.src, .int .i64 x.gst.count, .int .i64 x.gst.wk.id, .int .i64 x.gst.wk.at_, .int .i64 x.gst.wk.coins, .int .i64 x.gst.wk.seq, .int .i64 x.gst.wk.last] 33 _ rfl (by rintro w9 ⟨t9, rfl⟩; (repeat (first | with_reducible refine blk_ext ?_ | with_reducible apply blk_drew)); exact HMM2.out) Try.underlying33 rfl (by kernel_rfl) ?_); (try simp only [Act.put, List.setIfInBounds_toArray, List.set_cons_zero, List.set_cons_succ]))
      | (refine gap_pure rfl ?_; (first | go_big_quiet_skip | (go_big_quiet_want; go_big_quiet_op; go_big_quiet_on)); refine wpQuiet_nil ?_)
      | (refine gap_skip (by rfl) ?_; (try simp only [Act.put, List.setIfInBounds_toArray, List.set_cons_zero, List.set_cons_succ]))
      | (refine gap_mk rfl (by rfl) (fun V hV R hKR => ?_); (first | (go_simp; first | (go_at_call 8; refine (toMp_c _ _).mono ?_; rintro e w' ⟨rfl, t, rfl⟩) | (go_at_call 14; refine (toGwy_c _ _ _ _ _ (Re.of (Hid.out (by assumption)) (by ((try simp only [ext_drew]); (try simp only [ext_ext]); repeat (first | exact Ext.refl _ | with_reducible apply Ext.add | with_reducible apply Ext.dr | apply Ext.alloc | apply Ext.ext | apply Ext.drew | refine Ext.trans ?_ (by assumption))))) (by omega)).mono ?_; rintro e w' ⟨a0, c0, rfl, ⟨t, rfl⟩, ho⟩; have hR := re_Gwy ho.re; have hR0 := hid hR; clear hR; have hO := hid ho; clear ho) | (go_at_call 9; refine (toMsgX_c _ _).mono ?_; rintro e w' ⟨rfl, t, rfl⟩) | (go_at_call 21; refine (iGwyHear_c _ _ _ _ _ _ _ _ (Re.of (Hid.out (by assumption)) (by ((try simp only [ext_drew]); (try simp only [ext_ext]); repeat (first | exact Ext.refl _ | with_reducible apply Ext.add | with_reducible apply Ext.dr | apply Ext.alloc | apply Ext.ext | apply Ext.drew | refine Ext.trans ?_ (by assumption))))) (by omega)).mono ?_; rintro e w' ⟨a0, c0, rfl, ⟨t, rfl⟩, ho⟩; have hR := re_Gwy ho.re; have hR0 := hid hR; clear hR; have HOi := hid ho; clear ho) | skip)); (show R _ _); refine hKR _ _ (show Ext _ _ from (by ((try simp only [ext_drew]); (try simp only [ext_ext]); repeat (first | exact Ext.refl _ | with_reducible apply Ext.add | with_reducible apply Ext.dr | apply Ext.alloc | apply Ext.ext | apply Ext.drew | refine Ext.trans ?_ (by assumption))))) ?_; clear hKR R; (try simp only [Act.put, List.setIfInBounds_toArray, List.set_cons_zero, List.set_cons_succ])))
    refine gap_nil ?_
    intro V3 p3 hV3 hp3 hl3 hiv3
    refine ⟨_, rfl, rfl, by simp [Value.oneCell'], rfl, fun W3 hE3 hc3 hb3 => ?_⟩
    (try simp only [Act.put, List.setIfInBounds_toArray, List.set_cons_zero, List.set_cons_succ])
    repeat (refine mix_pure rfl ?_; (first | go_big_quiet_skip | (go_big_quiet_want; go_big_quiet_op; go_big_quiet_on)); refine wpQuiet_nil ?_)
    refine mix_nil ?_
    have EW3 : Ext M2 W3 := (by ((try simp only [ext_drew]); (try simp only [ext_ext]); repeat (first | exact Ext.refl _ | with_reducible apply Ext.add | with_reducible apply Ext.dr | apply Ext.alloc | apply Ext.ext | apply Ext.drew | refine Ext.trans ?_ (by assumption))))
    have fp1 := (EW3.cell np1 0).trans ep1
    have fp2 := (EW3.cell np2 0).trans ep2
    have q1 := Nat.lt_of_lt_of_le np1 EW3.size
    have q2 := Nat.lt_of_lt_of_le np2 EW3.size
    have q3 := lt_blk hb3
    have fp3 : W3.cell? ⟨p3, 0, none⟩ = some (.slice a0 (ghL m b s x).length c0) := (cell_blk hb3 0).trans rfl
    obtain ⟨lo3, hi3, hlo3, hhi3, hd3, hoi⟩ := gap_own2 HOi.out hV3 hc3 (hiv3 _ (List.mem_cons_self)) (b0 := M2.heap.size) (Ext.size (by ((try simp only [ext_drew]); (try simp only [ext_ext]); repeat (first | exact Ext.refl _ | with_reducible apply Ext.add | with_reducible apply Ext.dr | apply Ext.alloc | apply Ext.ext | apply Ext.drew | refine Ext.trans ?_ (by assumption)))))
    have HSi5 := hid (re_Gwy hoi.re)
    have HSs5 := hid (re_Gwy (HOs4.out.of EW3).re)
    have HR5 := hid (HR4.out.of EW3)
    clear hoi HOi hE3 hc3 hb3 hiv3 hl3 hp3 hV3 hR0 HOs4 HSs4 HR4 eM0 eM1 eB0 ep1 ep2 eX
    try go_wp2_with (first
        | (go_at_call 18; refine (eqGwy_c _ _ _ _ _ _ _ (Re.of (Hid.out (by assumption)) (by ((try simp only [ext_drew]); (try simp only [ext_ext]); repeat (first | exact Ext.refl _ | with_reducible apply Ext.add | with_reducible apply Ext.dr | apply Ext.alloc | apply Ext.ext | apply Ext.drew | refine Ext.trans ?_ (by assumption))))) (Re.of (Hid.out (by assumption)) (by ((try simp only [ext_drew]); (try simp only [ext_ext]); repeat (first | exact Ext.refl _ | with_reducible apply Ext.add | with_reducible apply Ext.dr | apply Ext.alloc | apply Ext.ext | apply Ext.drew | refine Ext.trans ?_ (by assumption))))) (by omega)).mono ?_; rintro e w' ⟨rfl, t, rfl⟩) | (go_at_call 23; refine (heldGwy_c _ _ _ _ _ (Re.of (Hid.out (by assumption)) (by ((try simp only [ext_drew]); (try simp only [ext_ext]); repeat (first | exact Ext.refl _ | with_reducible apply Ext.add | with_reducible apply Ext.dr | apply Ext.alloc | apply Ext.ext | apply Ext.drew | refine Ext.trans ?_ (by assumption))))) (by omega) (by omega) (by omega)).mono ?_; rintro e w' ⟨rfl, t, rfl⟩)
        | (
          with_reducible refine wp_region_mix (by kernel_rfl) (by decide +kernel) ?_
          repeat (first
            | (refine mix_pure rfl ?_; (first | go_big_quiet_skip | (go_big_quiet_want; go_big_quiet_op; go_big_quiet_on)); refine wpQuiet_nil ?_)
            | (refine mix_skip (by rfl) ?_; (try simp only [Act.put, List.setIfInBounds_toArray, List.set_cons_zero, List.set_cons_succ]))
            | (refine mix_mk rfl (by rfl) (fun K hK => ?_); (first | (go_simp; first | (go_at_call 18; refine (eqGwy_c _ _ _ _ _ _ _ (Re.of (Hid.out (by assumption)) (by ((try simp only [ext_drew]); (try simp only [ext_ext]); repeat (first | exact Ext.refl _ | with_reducible apply Ext.add | with_reducible apply Ext.dr | apply Ext.alloc | apply Ext.ext | apply Ext.drew | refine Ext.trans ?_ (by assumption))))) (Re.of (Hid.out (by assumption)) (by ((try simp only [ext_drew]); (try simp only [ext_ext]); repeat (first | exact Ext.refl _ | with_reducible apply Ext.add | with_reducible apply Ext.dr | apply Ext.alloc | apply Ext.ext | apply Ext.drew | refine Ext.trans ?_ (by assumption))))) (by omega)).mono ?_; rintro e w' ⟨rfl, t, rfl⟩) | (go_at_call 23; refine (heldGwy_c _ _ _ _ _ (Re.of (Hid.out (by assumption)) (by ((try simp only [ext_drew]); (try simp only [ext_ext]); repeat (first | exact Ext.refl _ | with_reducible apply Ext.add | with_reducible apply Ext.dr | apply Ext.alloc | apply Ext.ext | apply Ext.drew | refine Ext.trans ?_ (by assumption))))) (by omega) (by omega) (by omega)).mono ?_; rintro e w' ⟨rfl, t, rfl⟩) | skip)); (show K _ _); refine hK _ _ (show Ext _ _ from (by ((try simp only [ext_drew]); (try simp only [ext_ext]); repeat (first | exact Ext.refl _ | with_reducible apply Ext.add | with_reducible apply Ext.dr | apply Ext.alloc | apply Ext.ext | apply Ext.drew | refine Ext.trans ?_ (by assumption))))) ?_; clear hK K; (try simp only [Act.put, List.setIfInBounds_toArray, List.set_cons_zero, List.set_cons_succ])))
          refine mix_nil ?_)
        | (
          with_reducible refine wp_region_ext (by kernel_rfl) (by kernel_rfl) ?_
          repeat (first | go_big_quiet_skip | (go_big_quiet_want; go_big_quiet_op; first | go_big_quiet_on | (apply Exists.intro; refine ⟨fun _ => ?_, ?_⟩; ((first | (go_at_call 18; first | exact quiet_call (eqGwy_c _ _ _ _ _ _ _ (Re.of (Hid.out (by assumption)) (by ((try simp only [ext_drew]); (try simp only [ext_ext]); repeat (first | exact Ext.refl _ | with_reducible apply Ext.add | with_reducible apply Ext.dr | apply Ext.alloc | apply Ext.ext | apply Ext.drew | refine Ext.trans ?_ (by assumption))))) (Re.of (Hid.out (by assumption)) (by ((try simp only [ext_drew]); (try simp only [ext_ext]); repeat (first | exact Ext.refl _ | with_reducible apply Ext.add | with_reducible apply Ext.dr | apply Ext.alloc | apply Ext.ext | apply Ext.drew | refine Ext.trans ?_ (by assumption))))) (by omega)) | exact quiet_call2 (eqGwy_c _ _ _ _ _ _ _ (Re.of (Hid.out (by assumption)) (by ((try simp only [ext_drew]); (try simp only [ext_ext]); repeat (first | exact Ext.refl _ | with_reducible apply Ext.add | with_reducible apply Ext.dr | apply Ext.alloc | apply Ext.ext | apply Ext.drew | refine Ext.trans ?_ (by assumption))))) (Re.of (Hid.out (by assumption)) (by ((try simp only [ext_drew]); (try simp only [ext_ext]); repeat (first | exact Ext.refl _ | with_reducible apply Ext.add | with_reducible apply Ext.dr | apply Ext.alloc | apply Ext.ext | apply Ext.drew | refine Ext.trans ?_ (by assumption))))) (by omega))) | (go_at_call 23; first | exact quiet_call (heldGwy_c _ _ _ _ _ (Re.of (Hid.out (by assumption)) (by ((try simp only [ext_drew]); (try simp only [ext_ext]); repeat (first | exact Ext.refl _ | with_reducible apply Ext.add | with_reducible apply Ext.dr | apply Ext.alloc | apply Ext.ext | apply Ext.drew | refine Ext.trans ?_ (by assumption))))) (by omega) (by omega) (by omega)) | exact quiet_call2 (heldGwy_c _ _ _ _ _ (Re.of (Hid.out (by assumption)) (by ((try simp only [ext_drew]); (try simp only [ext_ext]); repeat (first | exact Ext.refl _ | with_reducible apply Ext.add | with_reducible apply Ext.dr | apply Ext.alloc | apply Ext.ext | apply Ext.drew | refine Ext.trans ?_ (by assumption))))) (by omega) (by omega) (by omega))))); (try rw [h1]); (try rw [h2]); (try rw [h3]); (try rw [h4]); (try rw [p1]); (try rw [p2]); (try rw [p3]); (try rw [p4]); (try rw [r1]); (try rw [r2]); (try rw [r3]); (try rw [r4]); (try rw [r5]); (try rw [r6]); (try rw [q3]); (try rw [q4]); (try rw [hp]); (try rw [hq]); go_big_quiet_on)))
          refine wpQuiet_nil ?_
          rintro _ ⟨tq, rfl⟩))
    go_ret
    exact ⟨rfl, bel_ext HB2.out (by ((try simp only [ext_drew]); (try simp only [ext_ext]); repeat (first | exact Ext.refl _ | with_reducible apply Ext.add | with_reducible apply Ext.dr | apply Ext.alloc | apply Ext.ext | apply Ext.drew | refine Ext.trans ?_ (by assumption))))⟩

set_option maxRecDepth 100000 in
theorem fnExactGwyHear_lifted (os : Os) (started : os.Started) (H : Type) (enc : TypeId × Value → H) :
    ReturnsInHanded {} Try.checked os 5 .any (Rows.fnExactGwyHearSpec.pre6 enc Try.prog Try.f5 Rows.fnExactGwyHearRow.domain false) (Rows.fnExactGwyHearSpec.post enc Try.prog Try.f5 false true false false) := by
  refine returnsInHanded_of_change (C := Try.checked) own_knob started (by kernel_rfl) Try.func5
    (ChangeSpec.witness6 (enc := enc) (C := Try.checked) false ⟨#[], #[.agg #[.int .i64 0, .int .i64 0], .agg #[.slice none 0 0], .int .i64 0, .agg #[.int .i64 0, .int .i64 0, .int .i64 0, .int .i64 0, .int .i64 0, .int .i64 0, .int .i64 0, .int .i64 0, .int .i64 0, .int .i64 0, .int .i64 0, .int .i64 0, .int .i64 0, .int .i64 0, .int .i64 0, .int .i64 0, .int .i64 0, .int .i64 0, .int .i64 0, .int .i64 0, .int .i64 0, .int .i64 0, .int .i64 0, .int .i64 0, .int .i64 0]], []⟩ 8 (by kernel_rfl) (by kernel_rfl) (by kernel_rfl) (by kernel_rfl)) ?_
  intro W base args ds gs before hval0 hW _ _
  have hval : ∀ (j : Nat) t v, Try.f5.params[j]? = some t → args[j]? = some v → Value.okWide Try.prog W .any base t v := hval0
  have hfin : ∀ W', Below W.heap.size W W' → Rows.fnExactGwyHearSpec.post enc Try.prog Try.f5 false true false false W args (.bool true) W' := fun W' hb =>
    law_post laid_out rfl bool_ty rfl (by kernel_rfl) hW (fun ds h => by match ds, h with | [_, _, _, _], _ => rfl) hb
  suffices hwalk : Calls Try.prog 5 args W fun e W' => e = .returned (.bool true) ∧ Below W.heap.size W W' by
    refine hwalk.mono fun e W' ⟨he, hb⟩ => ?_
    subst he
    exact ⟨_, rfl, hfin W' hb⟩
  clear hfin
  obtain ⟨p, q, hA0, hV, _, hfz, hnd⟩ := hW
  have hA : DataW.TrodAll enc Try.prog W 0 (fun _ => true) true Try.f5.params.toList args.toList ds p := hA0
  clear hA0 hval0 hV hfz hnd
  rw [Try.params5] at hA hval
  obtain ⟨v0, vs0, d0, ds0, p0, q0, hargs0, _, _, h0, r0⟩ := trodAll_cons hA
  obtain ⟨v1, vs1, d1, ds1, p1, q1, hargs1, _, _, h1, r1⟩ := trodAll_cons r0
  obtain ⟨v2, vs2, d2, ds2, p2, q2, hargs2, _, _, h2, r2⟩ := trodAll_cons r1
  obtain ⟨v3, vs3, d3, ds3, p3, q3, hargs3, _, _, h3, r3⟩ := trodAll_cons r2
  obtain ⟨hnil, _, _⟩ := trodAll_nil r3
  obtain rfl : args = #[v0, v1, v2, v3] := by cases args; simp_all
  clear hargs0 hargs1 hargs2 hargs3 hnil
  obtain ⟨cs0, rfl, _⟩ := okWide_struct Try.underlying23 (hval 0 23 v0 rfl rfl)
  obtain ⟨e0, hd0⟩ := open_arg (s := sMp) (by kernel_rfl) h0
  obtain ⟨m, hm0, _⟩ := rd_Mp hd0
  obtain rfl : cs0 = m.cells.toArray := by rw [← hm0]; rfl
  obtain ⟨cs1, rfl, _⟩ := okWide_struct Try.underlying49 (hval 1 49 v1 rfl rfl)
  obtain ⟨e1, hd1⟩ := open_arg (s := sGwy) (by kernel_rfl) h1
  obtain ⟨b_a, b_n, b_c, b, hm1, h1_b0⟩ := open_Gwy hd1
  obtain rfl : cs1 = #[.slice b_a b_n b_c] := by apply Array.toList_inj.1; exact hm1
  obtain ⟨s, rfl, _, _, _⟩ := open_int Try.underlying3 (hval 2 3 v2 rfl rfl) h2
  obtain ⟨cs3, rfl, _⟩ := okWide_struct Try.underlying33 (hval 3 33 v3 rfl rfl)
  obtain ⟨e3, hd3⟩ := open_arg (s := sMsg) (by kernel_rfl) h3
  obtain ⟨x, hm3, _⟩ := rd_Msg hd3
  obtain rfl : cs3 = x.cells.toArray := by rw [← hm3]; rfl
  exact fnExactGwyHear_walk W m b_a b_n b_c b h1_b0 s x

theorem fnExactGwyHear_holds : Rows.FnExactGwyHearSaid :=
  OpenClaim.holds_of_wide 5 Try.f5 rfl rfl rfl rfl rfl rfl rfl ⟨rfl, rfl, rfl, rfl, rfl⟩ rfl rfl rfl rfl rfl (by kernel_rfl) Try.func5 (by kernel_rfl)
    (of_decide_eq_true (by kernel_rfl)) (by unfold Func.isWrapper; rw [if_neg (by decide +kernel)]; exact ⟨rfl, rfl⟩)
    (fun os started H enc _ => fnExactGwyHear_lifted os started H enc)


end Go.Proofs.Ytnfodkhfoegnaaa

