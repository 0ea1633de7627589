/- Packed texts: MsgS, MsgT, MsgI, GwyHc -/
import Derived.Test.YtnfodkhfoegnaaaZH2
import Derived.Test.YtnfodkhfoegnaaaZH4
import Derived.Test.YtnfodkhfoegnaaaZH3
namespace Go.Proofs.Ytnfodkhfoegnaaa
open Go.RowKit
set_option linter.unusedSimpArgs false
set_option linter.unusedVariables false

set_option maxRecDepth 100000 in
set_option maxHeartbeats 4000000 in
theorem sMsgOk_k1 (m : Mp) (s to_ cell side n : Int) (o : Ord) (p : Pcl) (g : Gst) (w : World) (h1 : plcOk m = true) (h2 : inB s 1 3 = true) (h3 : inB cell 0 (m.c - 1) = true) (s1 : 1 ≤ s) (s2 : s ≤ 3) (m1 : 2 ≤ m.c) (m2 : m.c ≤ 4) :
    Calls Try.prog 7 #[.agg #[.int .i64 m.c, .int .i64 m.w], .int .i64 s, .agg #[.int .i64 1, .int .i64 to_, .int .i64 cell, .int .i64 side, .int .i64 n, .int .i64 o.who, .int .i64 o.seq, .int .i64 o.kind, .int .i64 o.to_, .int .i64 o.n, .int .i64 p.n, .int .i64 p.kind, .int .i64 p.wk.id, .int .i64 p.wk.at_, .int .i64 p.wk.coins, .int .i64 p.wk.seq, .int .i64 p.wk.last, .int .i64 p.coins, .int .i64 g.src, .int .i64 g.count, .int .i64 g.wk.id, .int .i64 g.wk.at_, .int .i64 g.wk.coins, .int .i64 g.wk.seq, .int .i64 g.wk.last]] w fun e w' => e = .returned (.bool (msgOk m s ⟨1, to_, cell, side, n, o, p, g⟩)) ∧ Ext w w' := by
  cases r1 : inB side 0 1 with
  | false =>
    go_enter Try.func7, Try.ntmps7
    try go_wp2_with (first
        | (go_at_call 32; refine (sPlcOk_c _ _).mono ?_; rintro e w' ⟨rfl, t, rfl⟩) | (go_at_call 33; refine (l1In_c _ _ _ _).mono ?_; rintro e w' ⟨rfl, rfl⟩) | (go_at_call 34; refine (sPlcSide_c _ _ _ _).mono ?_; rintro e w' ⟨rfl, t, rfl⟩) | (go_at_call 35; refine (bareFFF_c _ _ _ _ _ _ _ _ _).mono ?_; rintro e w' ⟨rfl, t, rfl⟩) | ((with_reducible refine load_gateG (T1 := 44) ?_); refine wpList_loadG (by rfl) _ _ rfl (w.heap.size + 1) #[.int .i64 1, .int .i64 to_, .int .i64 cell, .int .i64 side, .int .i64 n, .int .i64 o.who, .int .i64 o.seq, .int .i64 o.kind, .int .i64 o.to_, .int .i64 o.n, .int .i64 p.n, .int .i64 p.kind, .int .i64 p.wk.id, .int .i64 p.wk.at_, .int .i64 p.wk.coins, .int .i64 p.wk.seq, .int .i64 p.wk.last, .int .i64 p.coins, .int .i64 g.src, .int .i64 g.count, .int .i64 g.wk.id, .int .i64 g.wk.at_, .int .i64 g.wk.coins, .int .i64 g.wk.seq, .int .i64 g.wk.last] 44 _ rfl (by (repeat (first | with_reducible refine blk_ext ?_ | with_reducible apply blk_drew)); exact alloc_last (by (try simp [go_sem]) <;> (try simp [Xt.add]) <;> omega)) Try.underlying44 rfl (by kernel_rfl) ?_)
        | (
          with_reducible refine wp_region_mix (by kernel_rfl) (by decide +kernel) ?_
          repeat (first
            | (refine mix_pure rfl ?_; (first | go_big_quiet_skip | (go_big_quiet_want; go_big_quiet_op; go_big_quiet_on)); refine wpQuiet_nil ?_)
            | (refine mix_skip (by rfl) ?_; (try simp only [Act.put, List.setIfInBounds_toArray, List.set_cons_zero, List.set_cons_succ]))
            | (refine mix_mk rfl (by rfl) (fun K hK => ?_); (first | (go_simp; first | (go_at_call 32; refine (sPlcOk_c _ _).mono ?_; rintro e w' ⟨rfl, t, rfl⟩) | (go_at_call 33; refine (l1In_c _ _ _ _).mono ?_; rintro e w' ⟨rfl, rfl⟩) | (go_at_call 34; refine (sPlcSide_c _ _ _ _).mono ?_; rintro e w' ⟨rfl, t, rfl⟩) | (go_at_call 35; refine (bareFFF_c _ _ _ _ _ _ _ _ _).mono ?_; rintro e w' ⟨rfl, t, rfl⟩) | ((with_reducible refine load_gateG (T1 := 44) ?_); refine wpList_loadG (by rfl) _ _ rfl (w.heap.size + 1) #[.int .i64 1, .int .i64 to_, .int .i64 cell, .int .i64 side, .int .i64 n, .int .i64 o.who, .int .i64 o.seq, .int .i64 o.kind, .int .i64 o.to_, .int .i64 o.n, .int .i64 p.n, .int .i64 p.kind, .int .i64 p.wk.id, .int .i64 p.wk.at_, .int .i64 p.wk.coins, .int .i64 p.wk.seq, .int .i64 p.wk.last, .int .i64 p.coins, .int .i64 g.src, .int .i64 g.count, .int .i64 g.wk.id, .int .i64 g.wk.at_, .int .i64 g.wk.coins, .int .i64 g.wk.seq, .int .i64 g.wk.last] 44 _ rfl (by (repeat (first | with_reducible refine blk_ext ?_ | with_reducible apply blk_drew)); exact alloc_last (by (try simp [go_sem]) <;> (try simp [Xt.add]) <;> omega)) Try.underlying44 rfl (by kernel_rfl) ?_) | skip)); (show K _ _); refine hK _ _ (show Ext _ _ from (by ((try simp only [ext_drew]); (try simp only [ext_ext]); repeat (first | exact Ext.refl _ | with_reducible apply Ext.add | with_reducible apply Ext.dr | apply Ext.alloc | apply Ext.ext | apply Ext.drew | refine Ext.trans ?_ (by assumption))))) ?_; clear hK K; (try simp only [Act.put, List.setIfInBounds_toArray, List.set_cons_zero, List.set_cons_succ])))
          refine mix_nil ?_)
        | (
          with_reducible refine wp_region_ext (by kernel_rfl) (by kernel_rfl) ?_
          repeat (first | go_big_quiet_skip | (go_big_quiet_want; go_big_quiet_op; first | go_big_quiet_on | (apply Exists.intro; refine ⟨fun _ => ?_, ?_⟩; ((first | (go_at_call 32; first | exact quiet_call (sPlcOk_c _ _) | exact quiet_call2 (sPlcOk_c _ _)) | (go_at_call 33; first | exact quiet_same (l1In_c _ _ _ _) | exact quiet_same2 (l1In_c _ _ _ _)) | (go_at_call 34; first | exact quiet_call (sPlcSide_c _ _ _ _) | exact quiet_call2 (sPlcSide_c _ _ _ _)) | (go_at_call 35; first | exact quiet_call (bareFFF_c _ _ _ _ _ _ _ _ _) | exact quiet_call2 (bareFFF_c _ _ _ _ _ _ _ _ _)))); (try rw [h1]); (try rw [h2]); (try rw [h3]); (try rw [h4]); (try rw [p1]); (try rw [p2]); (try rw [p3]); (try rw [p4]); (try rw [r1]); (try rw [r2]); (try rw [r3]); (try rw [r4]); (try rw [r5]); (try rw [r6]); (try rw [q3]); (try rw [q4]); (try rw [hp]); (try rw [hq]); go_big_quiet_on)))
          refine wpQuiet_nil ?_
          rintro _ ⟨tq, rfl⟩))
    go_ret
    refine ⟨ret_bool ?_, (by ((try simp only [ext_drew]); (try simp only [ext_ext]); repeat (first | exact Ext.refl _ | with_reducible apply Ext.add | with_reducible apply Ext.dr | apply Ext.alloc | apply Ext.ext | apply Ext.drew | refine Ext.trans ?_ (by assumption))))⟩
    have hs0 : (side == 0) = false := by have := inB_not.1 r1; simp; omega
    simp [msgOk, msgKind, Bool.and_assoc, h1, h2, h3, r1, hs0]
  | true =>
    cases r2 : inB to_ 0 (s - 1) with
    | false =>
      go_enter Try.func7, Try.ntmps7
      try go_wp2_with (first
          | (go_at_call 32; refine (sPlcOk_c _ _).mono ?_; rintro e w' ⟨rfl, t, rfl⟩) | (go_at_call 33; refine (l1In_c _ _ _ _).mono ?_; rintro e w' ⟨rfl, rfl⟩) | (go_at_call 34; refine (sPlcSide_c _ _ _ _).mono ?_; rintro e w' ⟨rfl, t, rfl⟩) | (go_at_call 35; refine (bareFFF_c _ _ _ _ _ _ _ _ _).mono ?_; rintro e w' ⟨rfl, t, rfl⟩) | ((with_reducible refine load_gateG (T1 := 44) ?_); refine wpList_loadG (by rfl) _ _ rfl (w.heap.size + 1) #[.int .i64 1, .int .i64 to_, .int .i64 cell, .int .i64 side, .int .i64 n, .int .i64 o.who, .int .i64 o.seq, .int .i64 o.kind, .int .i64 o.to_, .int .i64 o.n, .int .i64 p.n, .int .i64 p.kind, .int .i64 p.wk.id, .int .i64 p.wk.at_, .int .i64 p.wk.coins, .int .i64 p.wk.seq, .int .i64 p.wk.last, .int .i64 p.coins, .int .i64 g.src, .int .i64 g.count, .int .i64 g.wk.id, .int .i64 g.wk.at_, .int .i64 g.wk.coins, .int .i64 g.wk.seq, .int .i64 g.wk.last] 44 _ rfl (by (repeat (first | with_reducible refine blk_ext ?_ | with_reducible apply blk_drew)); exact alloc_last (by (try simp [go_sem]) <;> (try simp [Xt.add]) <;> omega)) Try.underlying44 rfl (by kernel_rfl) ?_)
          | (
            with_reducible refine wp_region_mix (by kernel_rfl) (by decide +kernel) ?_
            repeat (first
              | (refine mix_pure rfl ?_; (first | go_big_quiet_skip | (go_big_quiet_want; go_big_quiet_op; go_big_quiet_on)); refine wpQuiet_nil ?_)
              | (refine mix_skip (by rfl) ?_; (try simp only [Act.put, List.setIfInBounds_toArray, List.set_cons_zero, List.set_cons_succ]))
              | (refine mix_mk rfl (by rfl) (fun K hK => ?_); (first | (go_simp; first | (go_at_call 32; refine (sPlcOk_c _ _).mono ?_; rintro e w' ⟨rfl, t, rfl⟩) | (go_at_call 33; refine (l1In_c _ _ _ _).mono ?_; rintro e w' ⟨rfl, rfl⟩) | (go_at_call 34; refine (sPlcSide_c _ _ _ _).mono ?_; rintro e w' ⟨rfl, t, rfl⟩) | (go_at_call 35; refine (bareFFF_c _ _ _ _ _ _ _ _ _).mono ?_; rintro e w' ⟨rfl, t, rfl⟩) | ((with_reducible refine load_gateG (T1 := 44) ?_); refine wpList_loadG (by rfl) _ _ rfl (w.heap.size + 1) #[.int .i64 1, .int .i64 to_, .int .i64 cell, .int .i64 side, .int .i64 n, .int .i64 o.who, .int .i64 o.seq, .int .i64 o.kind, .int .i64 o.to_, .int .i64 o.n, .int .i64 p.n, .int .i64 p.kind, .int .i64 p.wk.id, .int .i64 p.wk.at_, .int .i64 p.wk.coins, .int .i64 p.wk.seq, .int .i64 p.wk.last, .int .i64 p.coins, .int .i64 g.src, .int .i64 g.count, .int .i64 g.wk.id, .int .i64 g.wk.at_, .int .i64 g.wk.coins, .int .i64 g.wk.seq, .int .i64 g.wk.last] 44 _ rfl (by (repeat (first | with_reducible refine blk_ext ?_ | with_reducible apply blk_drew)); exact alloc_last (by (try simp [go_sem]) <;> (try simp [Xt.add]) <;> omega)) Try.underlying44 rfl (by kernel_rfl) ?_) | skip)); (show K _ _); refine hK _ _ (show Ext _ _ from (by ((try simp only [ext_drew]); (try simp only [ext_ext]); repeat (first | exact Ext.refl _ | with_reducible apply Ext.add | with_reducible apply Ext.dr | apply Ext.alloc | apply Ext.ext | apply Ext.drew | refine Ext.trans ?_ (by assumption))))) ?_; clear hK K; (try simp only [Act.put, List.setIfInBounds_toArray, List.set_cons_zero, List.set_cons_succ])))
            refine mix_nil ?_)
          | (
            with_reducible refine wp_region_ext (by kernel_rfl) (by kernel_rfl) ?_
            repeat (first | go_big_quiet_skip | (go_big_quiet_want; go_big_quiet_op; first | go_big_quiet_on | (apply Exists.intro; refine ⟨fun _ => ?_, ?_⟩; ((first | (go_at_call 32; first | exact quiet_call (sPlcOk_c _ _) | exact quiet_call2 (sPlcOk_c _ _)) | (go_at_call 33; first | exact quiet_same (l1In_c _ _ _ _) | exact quiet_same2 (l1In_c _ _ _ _)) | (go_at_call 34; first | exact quiet_call (sPlcSide_c _ _ _ _) | exact quiet_call2 (sPlcSide_c _ _ _ _)) | (go_at_call 35; first | exact quiet_call (bareFFF_c _ _ _ _ _ _ _ _ _) | exact quiet_call2 (bareFFF_c _ _ _ _ _ _ _ _ _)))); (try rw [h1]); (try rw [h2]); (try rw [h3]); (try rw [h4]); (try rw [p1]); (try rw [p2]); (try rw [p3]); (try rw [p4]); (try rw [r1]); (try rw [r2]); (try rw [r3]); (try rw [r4]); (try rw [r5]); (try rw [r6]); (try rw [q3]); (try rw [q4]); (try rw [hp]); (try rw [hq]); go_big_quiet_on)))
            refine wpQuiet_nil ?_
            rintro _ ⟨tq, rfl⟩))
      go_ret
      refine ⟨ret_bool ?_, (by ((try simp only [ext_drew]); (try simp only [ext_ext]); repeat (first | exact Ext.refl _ | with_reducible apply Ext.add | with_reducible apply Ext.dr | apply Ext.alloc | apply Ext.ext | apply Ext.drew | refine Ext.trans ?_ (by assumption))))⟩
      simp [msgOk, msgKind, Bool.and_assoc, h1, h2, h3, r1, r2]
    | true =>
      cases r3 : (side == 0) with
      | false =>
        go_enter Try.func7, Try.ntmps7
        try go_wp2_with (first
            | (go_at_call 32; refine (sPlcOk_c _ _).mono ?_; rintro e w' ⟨rfl, t, rfl⟩) | (go_at_call 33; refine (l1In_c _ _ _ _).mono ?_; rintro e w' ⟨rfl, rfl⟩) | (go_at_call 34; refine (sPlcSide_c _ _ _ _).mono ?_; rintro e w' ⟨rfl, t, rfl⟩) | (go_at_call 35; refine (bareFFF_c _ _ _ _ _ _ _ _ _).mono ?_; rintro e w' ⟨rfl, t, rfl⟩) | ((with_reducible refine load_gateG (T1 := 44) ?_); refine wpList_loadG (by rfl) _ _ rfl (w.heap.size + 1) #[.int .i64 1, .int .i64 to_, .int .i64 cell, .int .i64 side, .int .i64 n, .int .i64 o.who, .int .i64 o.seq, .int .i64 o.kind, .int .i64 o.to_, .int .i64 o.n, .int .i64 p.n, .int .i64 p.kind, .int .i64 p.wk.id, .int .i64 p.wk.at_, .int .i64 p.wk.coins, .int .i64 p.wk.seq, .int .i64 p.wk.last, .int .i64 p.coins, .int .i64 g.src, .int .i64 g.count, .int .i64 g.wk.id, .int .i64 g.wk.at_, .int .i64 g.wk.coins, .int .i64 g.wk.seq, .int .i64 g.wk.last] 44 _ rfl (by (repeat (first | with_reducible refine blk_ext ?_ | with_reducible apply blk_drew)); exact alloc_last (by (try simp [go_sem]) <;> (try simp [Xt.add]) <;> omega)) Try.underlying44 rfl (by kernel_rfl) ?_)
            | (
              with_reducible refine wp_region_mix (by kernel_rfl) (by decide +kernel) ?_
              repeat (first
                | (refine mix_pure rfl ?_; (first | go_big_quiet_skip | (go_big_quiet_want; go_big_quiet_op; go_big_quiet_on)); refine wpQuiet_nil ?_)
                | (refine mix_skip (by rfl) ?_; (try simp only [Act.put, List.setIfInBounds_toArray, List.set_cons_zero, List.set_cons_succ]))
                | (refine mix_mk rfl (by rfl) (fun K hK => ?_); (first | (go_simp; first | (go_at_call 32; refine (sPlcOk_c _ _).mono ?_; rintro e w' ⟨rfl, t, rfl⟩) | (go_at_call 33; refine (l1In_c _ _ _ _).mono ?_; rintro e w' ⟨rfl, rfl⟩) | (go_at_call 34; refine (sPlcSide_c _ _ _ _).mono ?_; rintro e w' ⟨rfl, t, rfl⟩) | (go_at_call 35; refine (bareFFF_c _ _ _ _ _ _ _ _ _).mono ?_; rintro e w' ⟨rfl, t, rfl⟩) | ((with_reducible refine load_gateG (T1 := 44) ?_); refine wpList_loadG (by rfl) _ _ rfl (w.heap.size + 1) #[.int .i64 1, .int .i64 to_, .int .i64 cell, .int .i64 side, .int .i64 n, .int .i64 o.who, .int .i64 o.seq, .int .i64 o.kind, .int .i64 o.to_, .int .i64 o.n, .int .i64 p.n, .int .i64 p.kind, .int .i64 p.wk.id, .int .i64 p.wk.at_, .int .i64 p.wk.coins, .int .i64 p.wk.seq, .int .i64 p.wk.last, .int .i64 p.coins, .int .i64 g.src, .int .i64 g.count, .int .i64 g.wk.id, .int .i64 g.wk.at_, .int .i64 g.wk.coins, .int .i64 g.wk.seq, .int .i64 g.wk.last] 44 _ rfl (by (repeat (first | with_reducible refine blk_ext ?_ | with_reducible apply blk_drew)); exact alloc_last (by (try simp [go_sem]) <;> (try simp [Xt.add]) <;> omega)) Try.underlying44 rfl (by kernel_rfl) ?_) | skip)); (show K _ _); refine hK _ _ (show Ext _ _ from (by ((try simp only [ext_drew]); (try simp only [ext_ext]); repeat (first | exact Ext.refl _ | with_reducible apply Ext.add | with_reducible apply Ext.dr | apply Ext.alloc | apply Ext.ext | apply Ext.drew | refine Ext.trans ?_ (by assumption))))) ?_; clear hK K; (try simp only [Act.put, List.setIfInBounds_toArray, List.set_cons_zero, List.set_cons_succ])))
              refine mix_nil ?_)
            | (
              with_reducible refine wp_region_ext (by kernel_rfl) (by kernel_rfl) ?_
              repeat (first | go_big_quiet_skip | (go_big_quiet_want; go_big_quiet_op; first | go_big_quiet_on | (apply Exists.intro; refine ⟨fun _ => ?_, ?_⟩; ((first | (go_at_call 32; first | exact quiet_call (sPlcOk_c _ _) | exact quiet_call2 (sPlcOk_c _ _)) | (go_at_call 33; first | exact quiet_same (l1In_c _ _ _ _) | exact quiet_same2 (l1In_c _ _ _ _)) | (go_at_call 34; first | exact quiet_call (sPlcSide_c _ _ _ _) | exact quiet_call2 (sPlcSide_c _ _ _ _)) | (go_at_call 35; first | exact quiet_call (bareFFF_c _ _ _ _ _ _ _ _ _) | exact quiet_call2 (bareFFF_c _ _ _ _ _ _ _ _ _)))); (try rw [h1]); (try rw [h2]); (try rw [h3]); (try rw [h4]); (try rw [p1]); (try rw [p2]); (try rw [p3]); (try rw [p4]); (try rw [r1]); (try rw [r2]); (try rw [r3]); (try rw [r4]); (try rw [r5]); (try rw [r6]); (try rw [q3]); (try rw [q4]); (try rw [hp]); (try rw [hq]); go_big_quiet_on)))
              refine wpQuiet_nil ?_
              rintro _ ⟨tq, rfl⟩))
        go_ret
        refine ⟨ret_bool ?_, (by ((try simp only [ext_drew]); (try simp only [ext_ext]); repeat (first | exact Ext.refl _ | with_reducible apply Ext.add | with_reducible apply Ext.dr | apply Ext.alloc | apply Ext.ext | apply Ext.drew | refine Ext.trans ?_ (by assumption))))⟩
        simp [msgOk, msgKind, Bool.and_assoc, h1, h2, h3, r1, r2, r3]
      | true =>
        cases r4 : inB n 1 900 with
        | false =>
          go_enter Try.func7, Try.ntmps7
          try go_wp2_with (first
              | (go_at_call 32; refine (sPlcOk_c _ _).mono ?_; rintro e w' ⟨rfl, t, rfl⟩) | (go_at_call 33; refine (l1In_c _ _ _ _).mono ?_; rintro e w' ⟨rfl, rfl⟩) | (go_at_call 34; refine (sPlcSide_c _ _ _ _).mono ?_; rintro e w' ⟨rfl, t, rfl⟩) | (go_at_call 35; refine (bareFFF_c _ _ _ _ _ _ _ _ _).mono ?_; rintro e w' ⟨rfl, t, rfl⟩) | ((with_reducible refine load_gateG (T1 := 44) ?_); refine wpList_loadG (by rfl) _ _ rfl (w.heap.size + 1) #[.int .i64 1, .int .i64 to_, .int .i64 cell, .int .i64 side, .int .i64 n, .int .i64 o.who, .int .i64 o.seq, .int .i64 o.kind, .int .i64 o.to_, .int .i64 o.n, .int .i64 p.n, .int .i64 p.kind, .int .i64 p.wk.id, .int .i64 p.wk.at_, .int .i64 p.wk.coins, .int .i64 p.wk.seq, .int .i64 p.wk.last, .int .i64 p.coins, .int .i64 g.src, .int .i64 g.count, .int .i64 g.wk.id, .int .i64 g.wk.at_, .int .i64 g.wk.coins, .int .i64 g.wk.seq, .int .i64 g.wk.last] 44 _ rfl (by (repeat (first | with_reducible refine blk_ext ?_ | with_reducible apply blk_drew)); exact alloc_last (by (try simp [go_sem]) <;> (try simp [Xt.add]) <;> omega)) Try.underlying44 rfl (by kernel_rfl) ?_)
              | (
                with_reducible refine wp_region_mix (by kernel_rfl) (by decide +kernel) ?_
                repeat (first
                  | (refine mix_pure rfl ?_; (first | go_big_quiet_skip | (go_big_quiet_want; go_big_quiet_op; go_big_quiet_on)); refine wpQuiet_nil ?_)
                  | (refine mix_skip (by rfl) ?_; (try simp only [Act.put, List.setIfInBounds_toArray, List.set_cons_zero, List.set_cons_succ]))
                  | (refine mix_mk rfl (by rfl) (fun K hK => ?_); (first | (go_simp; first | (go_at_call 32; refine (sPlcOk_c _ _).mono ?_; rintro e w' ⟨rfl, t, rfl⟩) | (go_at_call 33; refine (l1In_c _ _ _ _).mono ?_; rintro e w' ⟨rfl, rfl⟩) | (go_at_call 34; refine (sPlcSide_c _ _ _ _).mono ?_; rintro e w' ⟨rfl, t, rfl⟩) | (go_at_call 35; refine (bareFFF_c _ _ _ _ _ _ _ _ _).mono ?_; rintro e w' ⟨rfl, t, rfl⟩) | ((with_reducible refine load_gateG (T1 := 44) ?_); refine wpList_loadG (by rfl) _ _ rfl (w.heap.size + 1) #[.int .i64 1, .int .i64 to_, .int .i64 cell, .int .i64 side, .int .i64 n, .int .i64 o.who, .int .i64 o.seq, .int .i64 o.kind, .int .i64 o.to_, .int .i64 o.n, .int .i64 p.n, .int .i64 p.kind, .int .i64 p.wk.id, .int .i64 p.wk.at_, .int .i64 p.wk.coins, .int .i64 p.wk.seq, .int .i64 p.wk.last, .int .i64 p.coins, .int .i64 g.src, .int .i64 g.count, .int .i64 g.wk.id, .int .i64 g.wk.at_, .int .i64 g.wk.coins, .int .i64 g.wk.seq, .int .i64 g.wk.last] 44 _ rfl (by (repeat (first | with_reducible refine blk_ext ?_ | with_reducible apply blk_drew)); exact alloc_last (by (try simp [go_sem]) <;> (try simp [Xt.add]) <;> omega)) Try.underlying44 rfl (by kernel_rfl) ?_) | skip)); (show K _ _); refine hK _ _ (show Ext _ _ from (by ((try simp only [ext_drew]); (try simp only [ext_ext]); repeat (first | exact Ext.refl _ | with_reducible apply Ext.add | with_reducible apply Ext.dr | apply Ext.alloc | apply Ext.ext | apply Ext.drew | refine Ext.trans ?_ (by assumption))))) ?_; clear hK K; (try simp only [Act.put, List.setIfInBounds_toArray, List.set_cons_zero, List.set_cons_succ])))
                refine mix_nil ?_)
              | (
                with_reducible refine wp_region_ext (by kernel_rfl) (by kernel_rfl) ?_
                repeat (first | go_big_quiet_skip | (go_big_quiet_want; go_big_quiet_op; first | go_big_quiet_on | (apply Exists.intro; refine ⟨fun _ => ?_, ?_⟩; ((first | (go_at_call 32; first | exact quiet_call (sPlcOk_c _ _) | exact quiet_call2 (sPlcOk_c _ _)) | (go_at_call 33; first | exact quiet_same (l1In_c _ _ _ _) | exact quiet_same2 (l1In_c _ _ _ _)) | (go_at_call 34; first | exact quiet_call (sPlcSide_c _ _ _ _) | exact quiet_call2 (sPlcSide_c _ _ _ _)) | (go_at_call 35; first | exact quiet_call (bareFFF_c _ _ _ _ _ _ _ _ _) | exact quiet_call2 (bareFFF_c _ _ _ _ _ _ _ _ _)))); (try rw [h1]); (try rw [h2]); (try rw [h3]); (try rw [h4]); (try rw [p1]); (try rw [p2]); (try rw [p3]); (try rw [p4]); (try rw [r1]); (try rw [r2]); (try rw [r3]); (try rw [r4]); (try rw [r5]); (try rw [r6]); (try rw [q3]); (try rw [q4]); (try rw [hp]); (try rw [hq]); go_big_quiet_on)))
                refine wpQuiet_nil ?_
                rintro _ ⟨tq, rfl⟩))
          go_ret
          refine ⟨ret_bool ?_, (by ((try simp only [ext_drew]); (try simp only [ext_ext]); repeat (first | exact Ext.refl _ | with_reducible apply Ext.add | with_reducible apply Ext.dr | apply Ext.alloc | apply Ext.ext | apply Ext.drew | refine Ext.trans ?_ (by assumption))))⟩
          simp [msgOk, msgKind, Bool.and_assoc, h1, h2, h3, r1, r2, r3, r4]
        | true =>
          go_enter Try.func7, Try.ntmps7
          try go_wp2_with (first
              | (go_at_call 32; refine (sPlcOk_c _ _).mono ?_; rintro e w' ⟨rfl, t, rfl⟩) | (go_at_call 33; refine (l1In_c _ _ _ _).mono ?_; rintro e w' ⟨rfl, rfl⟩) | (go_at_call 34; refine (sPlcSide_c _ _ _ _).mono ?_; rintro e w' ⟨rfl, t, rfl⟩) | (go_at_call 35; refine (bareFFF_c _ _ _ _ _ _ _ _ _).mono ?_; rintro e w' ⟨rfl, t, rfl⟩) | ((with_reducible refine load_gateG (T1 := 44) ?_); refine wpList_loadG (by rfl) _ _ rfl (w.heap.size + 1) #[.int .i64 1, .int .i64 to_, .int .i64 cell, .int .i64 side, .int .i64 n, .int .i64 o.who, .int .i64 o.seq, .int .i64 o.kind, .int .i64 o.to_, .int .i64 o.n, .int .i64 p.n, .int .i64 p.kind, .int .i64 p.wk.id, .int .i64 p.wk.at_, .int .i64 p.wk.coins, .int .i64 p.wk.seq, .int .i64 p.wk.last, .int .i64 p.coins, .int .i64 g.src, .int .i64 g.count, .int .i64 g.wk.id, .int .i64 g.wk.at_, .int .i64 g.wk.coins, .int .i64 g.wk.seq, .int .i64 g.wk.last] 44 _ rfl (by (repeat (first | with_reducible refine blk_ext ?_ | with_reducible apply blk_drew)); exact alloc_last (by (try simp [go_sem]) <;> (try simp [Xt.add]) <;> omega)) Try.underlying44 rfl (by kernel_rfl) ?_)
              | (
                with_reducible refine wp_region_mix (by kernel_rfl) (by decide +kernel) ?_
                repeat (first
                  | (refine mix_pure rfl ?_; (first | go_big_quiet_skip | (go_big_quiet_want; go_big_quiet_op; go_big_quiet_on)); refine wpQuiet_nil ?_)
                  | (refine mix_skip (by rfl) ?_; (try simp only [Act.put, List.setIfInBounds_toArray, List.set_cons_zero, List.set_cons_succ]))
                  | (refine mix_mk rfl (by rfl) (fun K hK => ?_); (first | (go_simp; first | (go_at_call 32; refine (sPlcOk_c _ _).mono ?_; rintro e w' ⟨rfl, t, rfl⟩) | (go_at_call 33; refine (l1In_c _ _ _ _).mono ?_; rintro e w' ⟨rfl, rfl⟩) | (go_at_call 34; refine (sPlcSide_c _ _ _ _).mono ?_; rintro e w' ⟨rfl, t, rfl⟩) | (go_at_call 35; refine (bareFFF_c _ _ _ _ _ _ _ _ _).mono ?_; rintro e w' ⟨rfl, t, rfl⟩) | ((with_reducible refine load_gateG (T1 := 44) ?_); refine wpList_loadG (by rfl) _ _ rfl (w.heap.size + 1) #[.int .i64 1, .int .i64 to_, .int .i64 cell, .int .i64 side, .int .i64 n, .int .i64 o.who, .int .i64 o.seq, .int .i64 o.kind, .int .i64 o.to_, .int .i64 o.n, .int .i64 p.n, .int .i64 p.kind, .int .i64 p.wk.id, .int .i64 p.wk.at_, .int .i64 p.wk.coins, .int .i64 p.wk.seq, .int .i64 p.wk.last, .int .i64 p.coins, .int .i64 g.src, .int .i64 g.count, .int .i64 g.wk.id, .int .i64 g.wk.at_, .int .i64 g.wk.coins, .int .i64 g.wk.seq, .int .i64 g.wk.last] 44 _ rfl (by (repeat (first | with_reducible refine blk_ext ?_ | with_reducible apply blk_drew)); exact alloc_last (by (try simp [go_sem]) <;> (try simp [Xt.add]) <;> omega)) Try.underlying44 rfl (by kernel_rfl) ?_) | skip)); (show K _ _); refine hK _ _ (show Ext _ _ from (by ((try simp only [ext_drew]); (try simp only [ext_ext]); repeat (first | exact Ext.refl _ | with_reducible apply Ext.add | with_reducible apply Ext.dr | apply Ext.alloc | apply Ext.ext | apply Ext.drew | refine Ext.trans ?_ (by assumption))))) ?_; clear hK K; (try simp only [Act.put, List.setIfInBounds_toArray, List.set_cons_zero, List.set_cons_succ])))
                refine mix_nil ?_)
              | (
                with_reducible refine wp_region_ext (by kernel_rfl) (by kernel_rfl) ?_
                repeat (first | go_big_quiet_skip | (go_big_quiet_want; go_big_quiet_op; first | go_big_quiet_on | (apply Exists.intro; refine ⟨fun _ => ?_, ?_⟩; ((first | (go_at_call 32; first | exact quiet_call (sPlcOk_c _ _) | exact quiet_call2 (sPlcOk_c _ _)) | (go_at_call 33; first | exact quiet_same (l1In_c _ _ _ _) | exact quiet_same2 (l1In_c _ _ _ _)) | (go_at_call 34; first | exact quiet_call (sPlcSide_c _ _ _ _) | exact quiet_call2 (sPlcSide_c _ _ _ _)) | (go_at_call 35; first | exact quiet_call (bareFFF_c _ _ _ _ _ _ _ _ _) | exact quiet_call2 (bareFFF_c _ _ _ _ _ _ _ _ _)))); (try rw [h1]); (try rw [h2]); (try rw [h3]); (try rw [h4]); (try rw [p1]); (try rw [p2]); (try rw [p3]); (try rw [p4]); (try rw [r1]); (try rw [r2]); (try rw [r3]); (try rw [r4]); (try rw [r5]); (try rw [r6]); (try rw [q3]); (try rw [q4]); (try rw [hp]); (try rw [hq]); go_big_quiet_on)))
                refine wpQuiet_nil ?_
                rintro _ ⟨tq, rfl⟩))
          go_ret
          refine ⟨ret_bool ?_, (by ((try simp only [ext_drew]); (try simp only [ext_ext]); repeat (first | exact Ext.refl _ | with_reducible apply Ext.add | with_reducible apply Ext.dr | apply Ext.alloc | apply Ext.ext | apply Ext.drew | refine Ext.trans ?_ (by assumption))))⟩
          simp [msgOk, msgKind, Bool.and_assoc, h1, h2, h3, r1, r2, r3, r4]
set_option maxRecDepth 100000 in
set_option maxHeartbeats 4000000 in
theorem sMsgOk_k2 (m : Mp) (s to_ cell side n : Int) (o : Ord) (p : Pcl) (g : Gst) (w : World) (h1 : plcOk m = true) (h2 : inB s 1 3 = true) (h3 : inB cell 0 (m.c - 1) = true) (s1 : 1 ≤ s) (s2 : s ≤ 3) (m1 : 2 ≤ m.c) (m2 : m.c ≤ 4) :
    Calls Try.prog 7 #[.agg #[.int .i64 m.c, .int .i64 m.w], .int .i64 s, .agg #[.int .i64 2, .int .i64 to_, .int .i64 cell, .int .i64 side, .int .i64 n, .int .i64 o.who, .int .i64 o.seq, .int .i64 o.kind, .int .i64 o.to_, .int .i64 o.n, .int .i64 p.n, .int .i64 p.kind, .int .i64 p.wk.id, .int .i64 p.wk.at_, .int .i64 p.wk.coins, .int .i64 p.wk.seq, .int .i64 p.wk.last, .int .i64 p.coins, .int .i64 g.src, .int .i64 g.count, .int .i64 g.wk.id, .int .i64 g.wk.at_, .int .i64 g.wk.coins, .int .i64 g.wk.seq, .int .i64 g.wk.last]] w fun e w' => e = .returned (.bool (msgOk m s ⟨2, to_, cell, side, n, o, p, g⟩)) ∧ Ext w w' := by
  cases r1 : inB side 0 1 with
  | false =>
    go_enter Try.func7, Try.ntmps7
    try go_wp2_with (first
        | (go_at_call 32; refine (sPlcOk_c _ _).mono ?_; rintro e w' ⟨rfl, t, rfl⟩) | (go_at_call 33; refine (l1In_c _ _ _ _).mono ?_; rintro e w' ⟨rfl, rfl⟩) | (go_at_call 34; refine (sPlcSide_c _ _ _ _).mono ?_; rintro e w' ⟨rfl, t, rfl⟩) | (go_at_call 36; refine (sOrdOk_c _ _).mono ?_; rintro e w' ⟨rfl, t, rfl⟩) | (go_at_call 35; refine (bareTFF_c _ _ _ _ _ _ _ _ _).mono ?_; rintro e w' ⟨rfl, t, rfl⟩) | ((with_reducible refine load_gateG (T1 := 44) ?_); refine wpList_loadG (by rfl) _ _ rfl (w.heap.size + 1) #[.int .i64 2, .int .i64 to_, .int .i64 cell, .int .i64 side, .int .i64 n, .int .i64 o.who, .int .i64 o.seq, .int .i64 o.kind, .int .i64 o.to_, .int .i64 o.n, .int .i64 p.n, .int .i64 p.kind, .int .i64 p.wk.id, .int .i64 p.wk.at_, .int .i64 p.wk.coins, .int .i64 p.wk.seq, .int .i64 p.wk.last, .int .i64 p.coins, .int .i64 g.src, .int .i64 g.count, .int .i64 g.wk.id, .int .i64 g.wk.at_, .int .i64 g.wk.coins, .int .i64 g.wk.seq, .int .i64 g.wk.last] 44 _ rfl (by (repeat (first | with_reducible refine blk_ext ?_ | with_reducible apply blk_drew)); exact alloc_last (by (try simp [go_sem]) <;> (try simp [Xt.add]) <;> omega)) Try.underlying44 rfl (by kernel_rfl) ?_)
        | (
          with_reducible refine wp_region_mix (by kernel_rfl) (by decide +kernel) ?_
          repeat (first
            | (refine mix_pure rfl ?_; (first | go_big_quiet_skip | (go_big_quiet_want; go_big_quiet_op; go_big_quiet_on)); refine wpQuiet_nil ?_)
            | (refine mix_skip (by rfl) ?_; (try simp only [Act.put, List.setIfInBounds_toArray, List.set_cons_zero, List.set_cons_succ]))
            | (refine mix_mk rfl (by rfl) (fun K hK => ?_); (first | (go_simp; first | (go_at_call 32; refine (sPlcOk_c _ _).mono ?_; rintro e w' ⟨rfl, t, rfl⟩) | (go_at_call 33; refine (l1In_c _ _ _ _).mono ?_; rintro e w' ⟨rfl, rfl⟩) | (go_at_call 34; refine (sPlcSide_c _ _ _ _).mono ?_; rintro e w' ⟨rfl, t, rfl⟩) | (go_at_call 36; refine (sOrdOk_c _ _).mono ?_; rintro e w' ⟨rfl, t, rfl⟩) | (go_at_call 35; refine (bareTFF_c _ _ _ _ _ _ _ _ _).mono ?_; rintro e w' ⟨rfl, t, rfl⟩) | ((with_reducible refine load_gateG (T1 := 44) ?_); refine wpList_loadG (by rfl) _ _ rfl (w.heap.size + 1) #[.int .i64 2, .int .i64 to_, .int .i64 cell, .int .i64 side, .int .i64 n, .int .i64 o.who, .int .i64 o.seq, .int .i64 o.kind, .int .i64 o.to_, .int .i64 o.n, .int .i64 p.n, .int .i64 p.kind, .int .i64 p.wk.id, .int .i64 p.wk.at_, .int .i64 p.wk.coins, .int .i64 p.wk.seq, .int .i64 p.wk.last, .int .i64 p.coins, .int .i64 g.src, .int .i64 g.count, .int .i64 g.wk.id, .int .i64 g.wk.at_, .int .i64 g.wk.coins, .int .i64 g.wk.seq, .int .i64 g.wk.last] 44 _ rfl (by (repeat (first | with_reducible refine blk_ext ?_ | with_reducible apply blk_drew)); exact alloc_last (by (try simp [go_sem]) <;> (try simp [Xt.add]) <;> omega)) Try.underlying44 rfl (by kernel_rfl) ?_) | skip)); (show K _ _); refine hK _ _ (show Ext _ _ from (by ((try simp only [ext_drew]); (try simp only [ext_ext]); repeat (first | exact Ext.refl _ | with_reducible apply Ext.add | with_reducible apply Ext.dr | apply Ext.alloc | apply Ext.ext | apply Ext.drew | refine Ext.trans ?_ (by assumption))))) ?_; clear hK K; (try simp only [Act.put, List.setIfInBounds_toArray, List.set_cons_zero, List.set_cons_succ])))
          refine mix_nil ?_)
        | (
          with_reducible refine wp_region_ext (by kernel_rfl) (by kernel_rfl) ?_
          repeat (first | go_big_quiet_skip | (go_big_quiet_want; go_big_quiet_op; first | go_big_quiet_on | (apply Exists.intro; refine ⟨fun _ => ?_, ?_⟩; ((first | (go_at_call 32; first | exact quiet_call (sPlcOk_c _ _) | exact quiet_call2 (sPlcOk_c _ _)) | (go_at_call 33; first | exact quiet_same (l1In_c _ _ _ _) | exact quiet_same2 (l1In_c _ _ _ _)) | (go_at_call 34; first | exact quiet_call (sPlcSide_c _ _ _ _) | exact quiet_call2 (sPlcSide_c _ _ _ _)) | (go_at_call 36; first | exact quiet_call (sOrdOk_c _ _) | exact quiet_call2 (sOrdOk_c _ _)) | (go_at_call 35; first | exact quiet_call (bareTFF_c _ _ _ _ _ _ _ _ _) | exact quiet_call2 (bareTFF_c _ _ _ _ _ _ _ _ _)))); (try rw [h1]); (try rw [h2]); (try rw [h3]); (try rw [h4]); (try rw [p1]); (try rw [p2]); (try rw [p3]); (try rw [p4]); (try rw [r1]); (try rw [r2]); (try rw [r3]); (try rw [r4]); (try rw [r5]); (try rw [r6]); (try rw [q3]); (try rw [q4]); (try rw [hp]); (try rw [hq]); go_big_quiet_on)))
          refine wpQuiet_nil ?_
          rintro _ ⟨tq, rfl⟩))
    go_ret
    refine ⟨ret_bool ?_, (by ((try simp only [ext_drew]); (try simp only [ext_ext]); repeat (first | exact Ext.refl _ | with_reducible apply Ext.add | with_reducible apply Ext.dr | apply Ext.alloc | apply Ext.ext | apply Ext.drew | refine Ext.trans ?_ (by assumption))))⟩
    have hs0 : (side == 0) = false := by have := inB_not.1 r1; simp; omega
    simp [msgOk, msgKind, Bool.and_assoc, h1, h2, h3, r1, hs0]
  | true =>
    cases r2 : inB to_ 0 (s - 1) with
    | false =>
      go_enter Try.func7, Try.ntmps7
      try go_wp2_with (first
          | (go_at_call 32; refine (sPlcOk_c _ _).mono ?_; rintro e w' ⟨rfl, t, rfl⟩) | (go_at_call 33; refine (l1In_c _ _ _ _).mono ?_; rintro e w' ⟨rfl, rfl⟩) | (go_at_call 34; refine (sPlcSide_c _ _ _ _).mono ?_; rintro e w' ⟨rfl, t, rfl⟩) | (go_at_call 36; refine (sOrdOk_c _ _).mono ?_; rintro e w' ⟨rfl, t, rfl⟩) | (go_at_call 35; refine (bareTFF_c _ _ _ _ _ _ _ _ _).mono ?_; rintro e w' ⟨rfl, t, rfl⟩) | ((with_reducible refine load_gateG (T1 := 44) ?_); refine wpList_loadG (by rfl) _ _ rfl (w.heap.size + 1) #[.int .i64 2, .int .i64 to_, .int .i64 cell, .int .i64 side, .int .i64 n, .int .i64 o.who, .int .i64 o.seq, .int .i64 o.kind, .int .i64 o.to_, .int .i64 o.n, .int .i64 p.n, .int .i64 p.kind, .int .i64 p.wk.id, .int .i64 p.wk.at_, .int .i64 p.wk.coins, .int .i64 p.wk.seq, .int .i64 p.wk.last, .int .i64 p.coins, .int .i64 g.src, .int .i64 g.count, .int .i64 g.wk.id, .int .i64 g.wk.at_, .int .i64 g.wk.coins, .int .i64 g.wk.seq, .int .i64 g.wk.last] 44 _ rfl (by (repeat (first | with_reducible refine blk_ext ?_ | with_reducible apply blk_drew)); exact alloc_last (by (try simp [go_sem]) <;> (try simp [Xt.add]) <;> omega)) Try.underlying44 rfl (by kernel_rfl) ?_)
          | (
            with_reducible refine wp_region_mix (by kernel_rfl) (by decide +kernel) ?_
            repeat (first
              | (refine mix_pure rfl ?_; (first | go_big_quiet_skip | (go_big_quiet_want; go_big_quiet_op; go_big_quiet_on)); refine wpQuiet_nil ?_)
              | (refine mix_skip (by rfl) ?_; (try simp only [Act.put, List.setIfInBounds_toArray, List.set_cons_zero, List.set_cons_succ]))
              | (refine mix_mk rfl (by rfl) (fun K hK => ?_); (first | (go_simp; first | (go_at_call 32; refine (sPlcOk_c _ _).mono ?_; rintro e w' ⟨rfl, t, rfl⟩) | (go_at_call 33; refine (l1In_c _ _ _ _).mono ?_; rintro e w' ⟨rfl, rfl⟩) | (go_at_call 34; refine (sPlcSide_c _ _ _ _).mono ?_; rintro e w' ⟨rfl, t, rfl⟩) | (go_at_call 36; refine (sOrdOk_c _ _).mono ?_; rintro e w' ⟨rfl, t, rfl⟩) | (go_at_call 35; refine (bareTFF_c _ _ _ _ _ _ _ _ _).mono ?_; rintro e w' ⟨rfl, t, rfl⟩) | ((with_reducible refine load_gateG (T1 := 44) ?_); refine wpList_loadG (by rfl) _ _ rfl (w.heap.size + 1) #[.int .i64 2, .int .i64 to_, .int .i64 cell, .int .i64 side, .int .i64 n, .int .i64 o.who, .int .i64 o.seq, .int .i64 o.kind, .int .i64 o.to_, .int .i64 o.n, .int .i64 p.n, .int .i64 p.kind, .int .i64 p.wk.id, .int .i64 p.wk.at_, .int .i64 p.wk.coins, .int .i64 p.wk.seq, .int .i64 p.wk.last, .int .i64 p.coins, .int .i64 g.src, .int .i64 g.count, .int .i64 g.wk.id, .int .i64 g.wk.at_, .int .i64 g.wk.coins, .int .i64 g.wk.seq, .int .i64 g.wk.last] 44 _ rfl (by (repeat (first | with_reducible refine blk_ext ?_ | with_reducible apply blk_drew)); exact alloc_last (by (try simp [go_sem]) <;> (try simp [Xt.add]) <;> omega)) Try.underlying44 rfl (by kernel_rfl) ?_) | skip)); (show K _ _); refine hK _ _ (show Ext _ _ from (by ((try simp only [ext_drew]); (try simp only [ext_ext]); repeat (first | exact Ext.refl _ | with_reducible apply Ext.add | with_reducible apply Ext.dr | apply Ext.alloc | apply Ext.ext | apply Ext.drew | refine Ext.trans ?_ (by assumption))))) ?_; clear hK K; (try simp only [Act.put, List.setIfInBounds_toArray, List.set_cons_zero, List.set_cons_succ])))
            refine mix_nil ?_)
          | (
            with_reducible refine wp_region_ext (by kernel_rfl) (by kernel_rfl) ?_
            repeat (first | go_big_quiet_skip | (go_big_quiet_want; go_big_quiet_op; first | go_big_quiet_on | (apply Exists.intro; refine ⟨fun _ => ?_, ?_⟩; ((first | (go_at_call 32; first | exact quiet_call (sPlcOk_c _ _) | exact quiet_call2 (sPlcOk_c _ _)) | (go_at_call 33; first | exact quiet_same (l1In_c _ _ _ _) | exact quiet_same2 (l1In_c _ _ _ _)) | (go_at_call 34; first | exact quiet_call (sPlcSide_c _ _ _ _) | exact quiet_call2 (sPlcSide_c _ _ _ _)) | (go_at_call 36; first | exact quiet_call (sOrdOk_c _ _) | exact quiet_call2 (sOrdOk_c _ _)) | (go_at_call 35; first | exact quiet_call (bareTFF_c _ _ _ _ _ _ _ _ _) | exact quiet_call2 (bareTFF_c _ _ _ _ _ _ _ _ _)))); (try rw [h1]); (try rw [h2]); (try rw [h3]); (try rw [h4]); (try rw [p1]); (try rw [p2]); (try rw [p3]); (try rw [p4]); (try rw [r1]); (try rw [r2]); (try rw [r3]); (try rw [r4]); (try rw [r5]); (try rw [r6]); (try rw [q3]); (try rw [q4]); (try rw [hp]); (try rw [hq]); go_big_quiet_on)))
            refine wpQuiet_nil ?_
            rintro _ ⟨tq, rfl⟩))
      go_ret
      refine ⟨ret_bool ?_, (by ((try simp only [ext_drew]); (try simp only [ext_ext]); repeat (first | exact Ext.refl _ | with_reducible apply Ext.add | with_reducible apply Ext.dr | apply Ext.alloc | apply Ext.ext | apply Ext.drew | refine Ext.trans ?_ (by assumption))))⟩
      simp [msgOk, msgKind, Bool.and_assoc, h1, h2, h3, r1, r2]
    | true =>
      cases r3 : (side == 0) with
      | false =>
        go_enter Try.func7, Try.ntmps7
        try go_wp2_with (first
            | (go_at_call 32; refine (sPlcOk_c _ _).mono ?_; rintro e w' ⟨rfl, t, rfl⟩) | (go_at_call 33; refine (l1In_c _ _ _ _).mono ?_; rintro e w' ⟨rfl, rfl⟩) | (go_at_call 34; refine (sPlcSide_c _ _ _ _).mono ?_; rintro e w' ⟨rfl, t, rfl⟩) | (go_at_call 36; refine (sOrdOk_c _ _).mono ?_; rintro e w' ⟨rfl, t, rfl⟩) | (go_at_call 35; refine (bareTFF_c _ _ _ _ _ _ _ _ _).mono ?_; rintro e w' ⟨rfl, t, rfl⟩) | ((with_reducible refine load_gateG (T1 := 44) ?_); refine wpList_loadG (by rfl) _ _ rfl (w.heap.size + 1) #[.int .i64 2, .int .i64 to_, .int .i64 cell, .int .i64 side, .int .i64 n, .int .i64 o.who, .int .i64 o.seq, .int .i64 o.kind, .int .i64 o.to_, .int .i64 o.n, .int .i64 p.n, .int .i64 p.kind, .int .i64 p.wk.id, .int .i64 p.wk.at_, .int .i64 p.wk.coins, .int .i64 p.wk.seq, .int .i64 p.wk.last, .int .i64 p.coins, .int .i64 g.src, .int .i64 g.count, .int .i64 g.wk.id, .int .i64 g.wk.at_, .int .i64 g.wk.coins, .int .i64 g.wk.seq, .int .i64 g.wk.last] 44 _ rfl (by (repeat (first | with_reducible refine blk_ext ?_ | with_reducible apply blk_drew)); exact alloc_last (by (try simp [go_sem]) <;> (try simp [Xt.add]) <;> omega)) Try.underlying44 rfl (by kernel_rfl) ?_)
            | (
              with_reducible refine wp_region_mix (by kernel_rfl) (by decide +kernel) ?_
              repeat (first
                | (refine mix_pure rfl ?_; (first | go_big_quiet_skip | (go_big_quiet_want; go_big_quiet_op; go_big_quiet_on)); refine wpQuiet_nil ?_)
                | (refine mix_skip (by rfl) ?_; (try simp only [Act.put, List.setIfInBounds_toArray, List.set_cons_zero, List.set_cons_succ]))
                | (refine mix_mk rfl (by rfl) (fun K hK => ?_); (first | (go_simp; first | (go_at_call 32; refine (sPlcOk_c _ _).mono ?_; rintro e w' ⟨rfl, t, rfl⟩) | (go_at_call 33; refine (l1In_c _ _ _ _).mono ?_; rintro e w' ⟨rfl, rfl⟩) | (go_at_call 34; refine (sPlcSide_c _ _ _ _).mono ?_; rintro e w' ⟨rfl, t, rfl⟩) | (go_at_call 36; refine (sOrdOk_c _ _).mono ?_; rintro e w' ⟨rfl, t, rfl⟩) | (go_at_call 35; refine (bareTFF_c _ _ _ _ _ _ _ _ _).mono ?_; rintro e w' ⟨rfl, t, rfl⟩) | ((with_reducible refine load_gateG (T1 := 44) ?_); refine wpList_loadG (by rfl) _ _ rfl (w.heap.size + 1) #[.int .i64 2, .int .i64 to_, .int .i64 cell, .int .i64 side, .int .i64 n, .int .i64 o.who, .int .i64 o.seq, .int .i64 o.kind, .int .i64 o.to_, .int .i64 o.n, .int .i64 p.n, .int .i64 p.kind, .int .i64 p.wk.id, .int .i64 p.wk.at_, .int .i64 p.wk.coins, .int .i64 p.wk.seq, .int .i64 p.wk.last, .int .i64 p.coins, .int .i64 g.src, .int .i64 g.count, .int .i64 g.wk.id, .int .i64 g.wk.at_, .int .i64 g.wk.coins, .int .i64 g.wk.seq, .int .i64 g.wk.last] 44 _ rfl (by (repeat (first | with_reducible refine blk_ext ?_ | with_reducible apply blk_drew)); exact alloc_last (by (try simp [go_sem]) <;> (try simp [Xt.add]) <;> omega)) Try.underlying44 rfl (by kernel_rfl) ?_) | skip)); (show K _ _); refine hK _ _ (show Ext _ _ from (by ((try simp only [ext_drew]); (try simp only [ext_ext]); repeat (first | exact Ext.refl _ | with_reducible apply Ext.add | with_reducible apply Ext.dr | apply Ext.alloc | apply Ext.ext | apply Ext.drew | refine Ext.trans ?_ (by assumption))))) ?_; clear hK K; (try simp only [Act.put, List.setIfInBounds_toArray, List.set_cons_zero, List.set_cons_succ])))
              refine mix_nil ?_)
            | (
              with_reducible refine wp_region_ext (by kernel_rfl) (by kernel_rfl) ?_
              repeat (first | go_big_quiet_skip | (go_big_quiet_want; go_big_quiet_op; first | go_big_quiet_on | (apply Exists.intro; refine ⟨fun _ => ?_, ?_⟩; ((first | (go_at_call 32; first | exact quiet_call (sPlcOk_c _ _) | exact quiet_call2 (sPlcOk_c _ _)) | (go_at_call 33; first | exact quiet_same (l1In_c _ _ _ _) | exact quiet_same2 (l1In_c _ _ _ _)) | (go_at_call 34; first | exact quiet_call (sPlcSide_c _ _ _ _) | exact quiet_call2 (sPlcSide_c _ _ _ _)) | (go_at_call 36; first | exact quiet_call (sOrdOk_c _ _) | exact quiet_call2 (sOrdOk_c _ _)) | (go_at_call 35; first | exact quiet_call (bareTFF_c _ _ _ _ _ _ _ _ _) | exact quiet_call2 (bareTFF_c _ _ _ _ _ _ _ _ _)))); (try rw [h1]); (try rw [h2]); (try rw [h3]); (try rw [h4]); (try rw [p1]); (try rw [p2]); (try rw [p3]); (try rw [p4]); (try rw [r1]); (try rw [r2]); (try rw [r3]); (try rw [r4]); (try rw [r5]); (try rw [r6]); (try rw [q3]); (try rw [q4]); (try rw [hp]); (try rw [hq]); go_big_quiet_on)))
              refine wpQuiet_nil ?_
              rintro _ ⟨tq, rfl⟩))
        go_ret
        refine ⟨ret_bool ?_, (by ((try simp only [ext_drew]); (try simp only [ext_ext]); repeat (first | exact Ext.refl _ | with_reducible apply Ext.add | with_reducible apply Ext.dr | apply Ext.alloc | apply Ext.ext | apply Ext.drew | refine Ext.trans ?_ (by assumption))))⟩
        simp [msgOk, msgKind, Bool.and_assoc, h1, h2, h3, r1, r2, r3]
      | true =>
        cases r4 : (n == 0) with
        | false =>
          go_enter Try.func7, Try.ntmps7
          try go_wp2_with (first
              | (go_at_call 32; refine (sPlcOk_c _ _).mono ?_; rintro e w' ⟨rfl, t, rfl⟩) | (go_at_call 33; refine (l1In_c _ _ _ _).mono ?_; rintro e w' ⟨rfl, rfl⟩) | (go_at_call 34; refine (sPlcSide_c _ _ _ _).mono ?_; rintro e w' ⟨rfl, t, rfl⟩) | (go_at_call 36; refine (sOrdOk_c _ _).mono ?_; rintro e w' ⟨rfl, t, rfl⟩) | (go_at_call 35; refine (bareTFF_c _ _ _ _ _ _ _ _ _).mono ?_; rintro e w' ⟨rfl, t, rfl⟩) | ((with_reducible refine load_gateG (T1 := 44) ?_); refine wpList_loadG (by rfl) _ _ rfl (w.heap.size + 1) #[.int .i64 2, .int .i64 to_, .int .i64 cell, .int .i64 side, .int .i64 n, .int .i64 o.who, .int .i64 o.seq, .int .i64 o.kind, .int .i64 o.to_, .int .i64 o.n, .int .i64 p.n, .int .i64 p.kind, .int .i64 p.wk.id, .int .i64 p.wk.at_, .int .i64 p.wk.coins, .int .i64 p.wk.seq, .int .i64 p.wk.last, .int .i64 p.coins, .int .i64 g.src, .int .i64 g.count, .int .i64 g.wk.id, .int .i64 g.wk.at_, .int .i64 g.wk.coins, .int .i64 g.wk.seq, .int .i64 g.wk.last] 44 _ rfl (by (repeat (first | with_reducible refine blk_ext ?_ | with_reducible apply blk_drew)); exact alloc_last (by (try simp [go_sem]) <;> (try simp [Xt.add]) <;> omega)) Try.underlying44 rfl (by kernel_rfl) ?_)
              | (
                with_reducible refine wp_region_mix (by kernel_rfl) (by decide +kernel) ?_
                repeat (first
                  | (refine mix_pure rfl ?_; (first | go_big_quiet_skip | (go_big_quiet_want; go_big_quiet_op; go_big_quiet_on)); refine wpQuiet_nil ?_)
                  | (refine mix_skip (by rfl) ?_; (try simp only [Act.put, List.setIfInBounds_toArray, List.set_cons_zero, List.set_cons_succ]))
                  | (refine mix_mk rfl (by rfl) (fun K hK => ?_); (first | (go_simp; first | (go_at_call 32; refine (sPlcOk_c _ _).mono ?_; rintro e w' ⟨rfl, t, rfl⟩) | (go_at_call 33; refine (l1In_c _ _ _ _).mono ?_; rintro e w' ⟨rfl, rfl⟩) | (go_at_call 34; refine (sPlcSide_c _ _ _ _).mono ?_; rintro e w' ⟨rfl, t, rfl⟩) | (go_at_call 36; refine (sOrdOk_c _ _).mono ?_; rintro e w' ⟨rfl, t, rfl⟩) | (go_at_call 35; refine (bareTFF_c _ _ _ _ _ _ _ _ _).mono ?_; rintro e w' ⟨rfl, t, rfl⟩) | ((with_reducible refine load_gateG (T1 := 44) ?_); refine wpList_loadG (by rfl) _ _ rfl (w.heap.size + 1) #[.int .i64 2, .int .i64 to_, .int .i64 cell, .int .i64 side, .int .i64 n, .int .i64 o.who, .int .i64 o.seq, .int .i64 o.kind, .int .i64 o.to_, .int .i64 o.n, .int .i64 p.n, .int .i64 p.kind, .int .i64 p.wk.id, .int .i64 p.wk.at_, .int .i64 p.wk.coins, .int .i64 p.wk.seq, .int .i64 p.wk.last, .int .i64 p.coins, .int .i64 g.src, .int .i64 g.count, .int .i64 g.wk.id, .int .i64 g.wk.at_, .int .i64 g.wk.coins, .int .i64 g.wk.seq, .int .i64 g.wk.last] 44 _ rfl (by (repeat (first | with_reducible refine blk_ext ?_ | with_reducible apply blk_drew)); exact alloc_last (by (try simp [go_sem]) <;> (try simp [Xt.add]) <;> omega)) Try.underlying44 rfl (by kernel_rfl) ?_) | skip)); (show K _ _); refine hK _ _ (show Ext _ _ from (by ((try simp only [ext_drew]); (try simp only [ext_ext]); repeat (first | exact Ext.refl _ | with_reducible apply Ext.add | with_reducible apply Ext.dr | apply Ext.alloc | apply Ext.ext | apply Ext.drew | refine Ext.trans ?_ (by assumption))))) ?_; clear hK K; (try simp only [Act.put, List.setIfInBounds_toArray, List.set_cons_zero, List.set_cons_succ])))
                refine mix_nil ?_)
              | (
                with_reducible refine wp_region_ext (by kernel_rfl) (by kernel_rfl) ?_
                repeat (first | go_big_quiet_skip | (go_big_quiet_want; go_big_quiet_op; first | go_big_quiet_on | (apply Exists.intro; refine ⟨fun _ => ?_, ?_⟩; ((first | (go_at_call 32; first | exact quiet_call (sPlcOk_c _ _) | exact quiet_call2 (sPlcOk_c _ _)) | (go_at_call 33; first | exact quiet_same (l1In_c _ _ _ _) | exact quiet_same2 (l1In_c _ _ _ _)) | (go_at_call 34; first | exact quiet_call (sPlcSide_c _ _ _ _) | exact quiet_call2 (sPlcSide_c _ _ _ _)) | (go_at_call 36; first | exact quiet_call (sOrdOk_c _ _) | exact quiet_call2 (sOrdOk_c _ _)) | (go_at_call 35; first | exact quiet_call (bareTFF_c _ _ _ _ _ _ _ _ _) | exact quiet_call2 (bareTFF_c _ _ _ _ _ _ _ _ _)))); (try rw [h1]); (try rw [h2]); (try rw [h3]); (try rw [h4]); (try rw [p1]); (try rw [p2]); (try rw [p3]); (try rw [p4]); (try rw [r1]); (try rw [r2]); (try rw [r3]); (try rw [r4]); (try rw [r5]); (try rw [r6]); (try rw [q3]); (try rw [q4]); (try rw [hp]); (try rw [hq]); go_big_quiet_on)))
                refine wpQuiet_nil ?_
                rintro _ ⟨tq, rfl⟩))
          go_ret
          refine ⟨ret_bool ?_, (by ((try simp only [ext_drew]); (try simp only [ext_ext]); repeat (first | exact Ext.refl _ | with_reducible apply Ext.add | with_reducible apply Ext.dr | apply Ext.alloc | apply Ext.ext | apply Ext.drew | refine Ext.trans ?_ (by assumption))))⟩
          simp [msgOk, msgKind, Bool.and_assoc, h1, h2, h3, r1, r2, r3, r4]
        | true =>
          cases r5 : ordOk o with
          | false =>
            go_enter Try.func7, Try.ntmps7
            try go_wp2_with (first
                | (go_at_call 32; refine (sPlcOk_c _ _).mono ?_; rintro e w' ⟨rfl, t, rfl⟩) | (go_at_call 33; refine (l1In_c _ _ _ _).mono ?_; rintro e w' ⟨rfl, rfl⟩) | (go_at_call 34; refine (sPlcSide_c _ _ _ _).mono ?_; rintro e w' ⟨rfl, t, rfl⟩) | (go_at_call 36; refine (sOrdOk_c _ _).mono ?_; rintro e w' ⟨rfl, t, rfl⟩) | (go_at_call 35; refine (bareTFF_c _ _ _ _ _ _ _ _ _).mono ?_; rintro e w' ⟨rfl, t, rfl⟩) | ((with_reducible refine load_gateG (T1 := 44) ?_); refine wpList_loadG (by rfl) _ _ rfl (w.heap.size + 1) #[.int .i64 2, .int .i64 to_, .int .i64 cell, .int .i64 side, .int .i64 n, .int .i64 o.who, .int .i64 o.seq, .int .i64 o.kind, .int .i64 o.to_, .int .i64 o.n, .int .i64 p.n, .int .i64 p.kind, .int .i64 p.wk.id, .int .i64 p.wk.at_, .int .i64 p.wk.coins, .int .i64 p.wk.seq, .int .i64 p.wk.last, .int .i64 p.coins, .int .i64 g.src, .int .i64 g.count, .int .i64 g.wk.id, .int .i64 g.wk.at_, .int .i64 g.wk.coins, .int .i64 g.wk.seq, .int .i64 g.wk.last] 44 _ rfl (by (repeat (first | with_reducible refine blk_ext ?_ | with_reducible apply blk_drew)); exact alloc_last (by (try simp [go_sem]) <;> (try simp [Xt.add]) <;> omega)) Try.underlying44 rfl (by kernel_rfl) ?_)
                | (
                  with_reducible refine wp_region_mix (by kernel_rfl) (by decide +kernel) ?_
                  repeat (first
                    | (refine mix_pure rfl ?_; (first | go_big_quiet_skip | (go_big_quiet_want; go_big_quiet_op; go_big_quiet_on)); refine wpQuiet_nil ?_)
                    | (refine mix_skip (by rfl) ?_; (try simp only [Act.put, List.setIfInBounds_toArray, List.set_cons_zero, List.set_cons_succ]))
                    | (refine mix_mk rfl (by rfl) (fun K hK => ?_); (first | (go_simp; first | (go_at_call 32; refine (sPlcOk_c _ _).mono ?_; rintro e w' ⟨rfl, t, rfl⟩) | (go_at_call 33; refine (l1In_c _ _ _ _).mono ?_; rintro e w' ⟨rfl, rfl⟩) | (go_at_call 34; refine (sPlcSide_c _ _ _ _).mono ?_; rintro e w' ⟨rfl, t, rfl⟩) | (go_at_call 36; refine (sOrdOk_c _ _).mono ?_; rintro e w' ⟨rfl, t, rfl⟩) | (go_at_call 35; refine (bareTFF_c _ _ _ _ _ _ _ _ _).mono ?_; rintro e w' ⟨rfl, t, rfl⟩) | ((with_reducible refine load_gateG (T1 := 44) ?_); refine wpList_loadG (by rfl) _ _ rfl (w.heap.size + 1) #[.int .i64 2, .int .i64 to_, .int .i64 cell, .int .i64 side, .int .i64 n, .int .i64 o.who, .int .i64 o.seq, .int .i64 o.kind, .int .i64 o.to_, .int .i64 o.n, .int .i64 p.n, .int .i64 p.kind, .int .i64 p.wk.id, .int .i64 p.wk.at_, .int .i64 p.wk.coins, .int .i64 p.wk.seq, .int .i64 p.wk.last, .int .i64 p.coins, .int .i64 g.src, .int .i64 g.count, .int .i64 g.wk.id, .int .i64 g.wk.at_, .int .i64 g.wk.coins, .int .i64 g.wk.seq, .int .i64 g.wk.last] 44 _ rfl (by (repeat (first | with_reducible refine blk_ext ?_ | with_reducible apply blk_drew)); exact alloc_last (by (try simp [go_sem]) <;> (try simp [Xt.add]) <;> omega)) Try.underlying44 rfl (by kernel_rfl) ?_) | skip)); (show K _ _); refine hK _ _ (show Ext _ _ from (by ((try simp only [ext_drew]); (try simp only [ext_ext]); repeat (first | exact Ext.refl _ | with_reducible apply Ext.add | with_reducible apply Ext.dr | apply Ext.alloc | apply Ext.ext | apply Ext.drew | refine Ext.trans ?_ (by assumption))))) ?_; clear hK K; (try simp only [Act.put, List.setIfInBounds_toArray, List.set_cons_zero, List.set_cons_succ])))
                  refine mix_nil ?_)
                | (
                  with_reducible refine wp_region_ext (by kernel_rfl) (by kernel_rfl) ?_
                  repeat (first | go_big_quiet_skip | (go_big_quiet_want; go_big_quiet_op; first | go_big_quiet_on | (apply Exists.intro; refine ⟨fun _ => ?_, ?_⟩; ((first | (go_at_call 32; first | exact quiet_call (sPlcOk_c _ _) | exact quiet_call2 (sPlcOk_c _ _)) | (go_at_call 33; first | exact quiet_same (l1In_c _ _ _ _) | exact quiet_same2 (l1In_c _ _ _ _)) | (go_at_call 34; first | exact quiet_call (sPlcSide_c _ _ _ _) | exact quiet_call2 (sPlcSide_c _ _ _ _)) | (go_at_call 36; first | exact quiet_call (sOrdOk_c _ _) | exact quiet_call2 (sOrdOk_c _ _)) | (go_at_call 35; first | exact quiet_call (bareTFF_c _ _ _ _ _ _ _ _ _) | exact quiet_call2 (bareTFF_c _ _ _ _ _ _ _ _ _)))); (try rw [h1]); (try rw [h2]); (try rw [h3]); (try rw [h4]); (try rw [p1]); (try rw [p2]); (try rw [p3]); (try rw [p4]); (try rw [r1]); (try rw [r2]); (try rw [r3]); (try rw [r4]); (try rw [r5]); (try rw [r6]); (try rw [q3]); (try rw [q4]); (try rw [hp]); (try rw [hq]); go_big_quiet_on)))
                  refine wpQuiet_nil ?_
                  rintro _ ⟨tq, rfl⟩))
            go_ret
            refine ⟨ret_bool ?_, (by ((try simp only [ext_drew]); (try simp only [ext_ext]); repeat (first | exact Ext.refl _ | with_reducible apply Ext.add | with_reducible apply Ext.dr | apply Ext.alloc | apply Ext.ext | apply Ext.drew | refine Ext.trans ?_ (by assumption))))⟩
            simp [msgOk, msgKind, Bool.and_assoc, h1, h2, h3, r1, r2, r3, r4, r5]
          | true =>
            go_enter Try.func7, Try.ntmps7
            try go_wp2_with (first
                | (go_at_call 32; refine (sPlcOk_c _ _).mono ?_; rintro e w' ⟨rfl, t, rfl⟩) | (go_at_call 33; refine (l1In_c _ _ _ _).mono ?_; rintro e w' ⟨rfl, rfl⟩) | (go_at_call 34; refine (sPlcSide_c _ _ _ _).mono ?_; rintro e w' ⟨rfl, t, rfl⟩) | (go_at_call 36; refine (sOrdOk_c _ _).mono ?_; rintro e w' ⟨rfl, t, rfl⟩) | (go_at_call 35; refine (bareTFF_c _ _ _ _ _ _ _ _ _).mono ?_; rintro e w' ⟨rfl, t, rfl⟩) | ((with_reducible refine load_gateG (T1 := 44) ?_); refine wpList_loadG (by rfl) _ _ rfl (w.heap.size + 1) #[.int .i64 2, .int .i64 to_, .int .i64 cell, .int .i64 side, .int .i64 n, .int .i64 o.who, .int .i64 o.seq, .int .i64 o.kind, .int .i64 o.to_, .int .i64 o.n, .int .i64 p.n, .int .i64 p.kind, .int .i64 p.wk.id, .int .i64 p.wk.at_, .int .i64 p.wk.coins, .int .i64 p.wk.seq, .int .i64 p.wk.last, .int .i64 p.coins, .int .i64 g.src, .int .i64 g.count, .int .i64 g.wk.id, .int .i64 g.wk.at_, .int .i64 g.wk.coins, .int .i64 g.wk.seq, .int .i64 g.wk.last] 44 _ rfl (by (repeat (first | with_reducible refine blk_ext ?_ | with_reducible apply blk_drew)); exact alloc_last (by (try simp [go_sem]) <;> (try simp [Xt.add]) <;> omega)) Try.underlying44 rfl (by kernel_rfl) ?_)
                | (
                  with_reducible refine wp_region_mix (by kernel_rfl) (by decide +kernel) ?_
                  repeat (first
                    | (refine mix_pure rfl ?_; (first | go_big_quiet_skip | (go_big_quiet_want; go_big_quiet_op; go_big_quiet_on)); refine wpQuiet_nil ?_)
                    | (refine mix_skip (by rfl) ?_; (try simp only [Act.put, List.setIfInBounds_toArray, List.set_cons_zero, List.set_cons_succ]))
                    | (refine mix_mk rfl (by rfl) (fun K hK => ?_); (first | (go_simp; first | (go_at_call 32; refine (sPlcOk_c _ _).mono ?_; rintro e w' ⟨rfl, t, rfl⟩) | (go_at_call 33; refine (l1In_c _ _ _ _).mono ?_; rintro e w' ⟨rfl, rfl⟩) | (go_at_call 34; refine (sPlcSide_c _ _ _ _).mono ?_; rintro e w' ⟨rfl, t, rfl⟩) | (go_at_call 36; refine (sOrdOk_c _ _).mono ?_; rintro e w' ⟨rfl, t, rfl⟩) | (go_at_call 35; refine (bareTFF_c _ _ _ _ _ _ _ _ _).mono ?_; rintro e w' ⟨rfl, t, rfl⟩) | ((with_reducible refine load_gateG (T1 := 44) ?_); refine wpList_loadG (by rfl) _ _ rfl (w.heap.size + 1) #[.int .i64 2, .int .i64 to_, .int .i64 cell, .int .i64 side, .int .i64 n, .int .i64 o.who, .int .i64 o.seq, .int .i64 o.kind, .int .i64 o.to_, .int .i64 o.n, .int .i64 p.n, .int .i64 p.kind, .int .i64 p.wk.id, .int .i64 p.wk.at_, .int .i64 p.wk.coins, .int .i64 p.wk.seq, .int .i64 p.wk.last, .int .i64 p.coins, .int .i64 g.src, .int .i64 g.count, .int .i64 g.wk.id, .int .i64 g.wk.at_, .int .i64 g.wk.coins, .int .i64 g.wk.seq, .int .i64 g.wk.last] 44 _ rfl (by (repeat (first | with_reducible refine blk_ext ?_ | with_reducible apply blk_drew)); exact alloc_last (by (try simp [go_sem]) <;> (try simp [Xt.add]) <;> omega)) Try.underlying44 rfl (by kernel_rfl) ?_) | skip)); (show K _ _); refine hK _ _ (show Ext _ _ from (by ((try simp only [ext_drew]); (try simp only [ext_ext]); repeat (first | exact Ext.refl _ | with_reducible apply Ext.add | with_reducible apply Ext.dr | apply Ext.alloc | apply Ext.ext | apply Ext.drew | refine Ext.trans ?_ (by assumption))))) ?_; clear hK K; (try simp only [Act.put, List.setIfInBounds_toArray, List.set_cons_zero, List.set_cons_succ])))
                  refine mix_nil ?_)
                | (
                  with_reducible refine wp_region_ext (by kernel_rfl) (by kernel_rfl) ?_
                  repeat (first | go_big_quiet_skip | (go_big_quiet_want; go_big_quiet_op; first | go_big_quiet_on | (apply Exists.intro; refine ⟨fun _ => ?_, ?_⟩; ((first | (go_at_call 32; first | exact quiet_call (sPlcOk_c _ _) | exact quiet_call2 (sPlcOk_c _ _)) | (go_at_call 33; first | exact quiet_same (l1In_c _ _ _ _) | exact quiet_same2 (l1In_c _ _ _ _)) | (go_at_call 34; first | exact quiet_call (sPlcSide_c _ _ _ _) | exact quiet_call2 (sPlcSide_c _ _ _ _)) | (go_at_call 36; first | exact quiet_call (sOrdOk_c _ _) | exact quiet_call2 (sOrdOk_c _ _)) | (go_at_call 35; first | exact quiet_call (bareTFF_c _ _ _ _ _ _ _ _ _) | exact quiet_call2 (bareTFF_c _ _ _ _ _ _ _ _ _)))); (try rw [h1]); (try rw [h2]); (try rw [h3]); (try rw [h4]); (try rw [p1]); (try rw [p2]); (try rw [p3]); (try rw [p4]); (try rw [r1]); (try rw [r2]); (try rw [r3]); (try rw [r4]); (try rw [r5]); (try rw [r6]); (try rw [q3]); (try rw [q4]); (try rw [hp]); (try rw [hq]); go_big_quiet_on)))
                  refine wpQuiet_nil ?_
                  rintro _ ⟨tq, rfl⟩))
            go_ret
            refine ⟨ret_bool ?_, (by ((try simp only [ext_drew]); (try simp only [ext_ext]); repeat (first | exact Ext.refl _ | with_reducible apply Ext.add | with_reducible apply Ext.dr | apply Ext.alloc | apply Ext.ext | apply Ext.drew | refine Ext.trans ?_ (by assumption))))⟩
            simp [msgOk, msgKind, Bool.and_assoc, h1, h2, h3, r1, r2, r3, r4, r5]
set_option maxRecDepth 100000 in
set_option maxHeartbeats 4000000 in
theorem sMsgOk_k3 (m : Mp) (s to_ cell side n : Int) (o : Ord) (p : Pcl) (g : Gst) (w : World) (h1 : plcOk m = true) (h2 : inB s 1 3 = true) (h3 : inB cell 0 (m.c - 1) = true) (s1 : 1 ≤ s) (s2 : s ≤ 3) (m1 : 2 ≤ m.c) (m2 : m.c ≤ 4) :
    Calls Try.prog 7 #[.agg #[.int .i64 m.c, .int .i64 m.w], .int .i64 s, .agg #[.int .i64 3, .int .i64 to_, .int .i64 cell, .int .i64 side, .int .i64 n, .int .i64 o.who, .int .i64 o.seq, .int .i64 o.kind, .int .i64 o.to_, .int .i64 o.n, .int .i64 p.n, .int .i64 p.kind, .int .i64 p.wk.id, .int .i64 p.wk.at_, .int .i64 p.wk.coins, .int .i64 p.wk.seq, .int .i64 p.wk.last, .int .i64 p.coins, .int .i64 g.src, .int .i64 g.count, .int .i64 g.wk.id, .int .i64 g.wk.at_, .int .i64 g.wk.coins, .int .i64 g.wk.seq, .int .i64 g.wk.last]] w fun e w' => e = .returned (.bool (msgOk m s ⟨3, to_, cell, side, n, o, p, g⟩)) ∧ Ext w w' := by
  cases r1 : inB side 0 1 with
  | false =>
    go_enter Try.func7, Try.ntmps7
    try go_wp2_with (first
        | (go_at_call 32; refine (sPlcOk_c _ _).mono ?_; rintro e w' ⟨rfl, t, rfl⟩) | (go_at_call 33; refine (l1In_c _ _ _ _).mono ?_; rintro e w' ⟨rfl, rfl⟩) | (go_at_call 34; refine (sPlcSide_c _ _ _ _).mono ?_; rintro e w' ⟨rfl, t, rfl⟩) | (go_at_call 36; refine (sOrdOk_c _ _).mono ?_; rintro e w' ⟨rfl, t, rfl⟩) | (go_at_call 35; refine (bareTFF_c _ _ _ _ _ _ _ _ _).mono ?_; rintro e w' ⟨rfl, t, rfl⟩) | ((with_reducible refine load_gateG (T1 := 44) ?_); refine wpList_loadG (by rfl) _ _ rfl (w.heap.size + 1) #[.int .i64 3, .int .i64 to_, .int .i64 cell, .int .i64 side, .int .i64 n, .int .i64 o.who, .int .i64 o.seq, .int .i64 o.kind, .int .i64 o.to_, .int .i64 o.n, .int .i64 p.n, .int .i64 p.kind, .int .i64 p.wk.id, .int .i64 p.wk.at_, .int .i64 p.wk.coins, .int .i64 p.wk.seq, .int .i64 p.wk.last, .int .i64 p.coins, .int .i64 g.src, .int .i64 g.count, .int .i64 g.wk.id, .int .i64 g.wk.at_, .int .i64 g.wk.coins, .int .i64 g.wk.seq, .int .i64 g.wk.last] 44 _ rfl (by (repeat (first | with_reducible refine blk_ext ?_ | with_reducible apply blk_drew)); exact alloc_last (by (try simp [go_sem]) <;> (try simp [Xt.add]) <;> omega)) Try.underlying44 rfl (by kernel_rfl) ?_)
        | (
          with_reducible refine wp_region_mix (by kernel_rfl) (by decide +kernel) ?_
          repeat (first
            | (refine mix_pure rfl ?_; (first | go_big_quiet_skip | (go_big_quiet_want; go_big_quiet_op; go_big_quiet_on)); refine wpQuiet_nil ?_)
            | (refine mix_skip (by rfl) ?_; (try simp only [Act.put, List.setIfInBounds_toArray, List.set_cons_zero, List.set_cons_succ]))
            | (refine mix_mk rfl (by rfl) (fun K hK => ?_); (first | (go_simp; first | (go_at_call 32; refine (sPlcOk_c _ _).mono ?_; rintro e w' ⟨rfl, t, rfl⟩) | (go_at_call 33; refine (l1In_c _ _ _ _).mono ?_; rintro e w' ⟨rfl, rfl⟩) | (go_at_call 34; refine (sPlcSide_c _ _ _ _).mono ?_; rintro e w' ⟨rfl, t, rfl⟩) | (go_at_call 36; refine (sOrdOk_c _ _).mono ?_; rintro e w' ⟨rfl, t, rfl⟩) | (go_at_call 35; refine (bareTFF_c _ _ _ _ _ _ _ _ _).mono ?_; rintro e w' ⟨rfl, t, rfl⟩) | ((with_reducible refine load_gateG (T1 := 44) ?_); refine wpList_loadG (by rfl) _ _ rfl (w.heap.size + 1) #[.int .i64 3, .int .i64 to_, .int .i64 cell, .int .i64 side, .int .i64 n, .int .i64 o.who, .int .i64 o.seq, .int .i64 o.kind, .int .i64 o.to_, .int .i64 o.n, .int .i64 p.n, .int .i64 p.kind, .int .i64 p.wk.id, .int .i64 p.wk.at_, .int .i64 p.wk.coins, .int .i64 p.wk.seq, .int .i64 p.wk.last, .int .i64 p.coins, .int .i64 g.src, .int .i64 g.count, .int .i64 g.wk.id, .int .i64 g.wk.at_, .int .i64 g.wk.coins, .int .i64 g.wk.seq, .int .i64 g.wk.last] 44 _ rfl (by (repeat (first | with_reducible refine blk_ext ?_ | with_reducible apply blk_drew)); exact alloc_last (by (try simp [go_sem]) <;> (try simp [Xt.add]) <;> omega)) Try.underlying44 rfl (by kernel_rfl) ?_) | skip)); (show K _ _); refine hK _ _ (show Ext _ _ from (by ((try simp only [ext_drew]); (try simp only [ext_ext]); repeat (first | exact Ext.refl _ | with_reducible apply Ext.add | with_reducible apply Ext.dr | apply Ext.alloc | apply Ext.ext | apply Ext.drew | refine Ext.trans ?_ (by assumption))))) ?_; clear hK K; (try simp only [Act.put, List.setIfInBounds_toArray, List.set_cons_zero, List.set_cons_succ])))
          refine mix_nil ?_)
        | (
          with_reducible refine wp_region_ext (by kernel_rfl) (by kernel_rfl) ?_
          repeat (first | go_big_quiet_skip | (go_big_quiet_want; go_big_quiet_op; first | go_big_quiet_on | (apply Exists.intro; refine ⟨fun _ => ?_, ?_⟩; ((first | (go_at_call 32; first | exact quiet_call (sPlcOk_c _ _) | exact quiet_call2 (sPlcOk_c _ _)) | (go_at_call 33; first | exact quiet_same (l1In_c _ _ _ _) | exact quiet_same2 (l1In_c _ _ _ _)) | (go_at_call 34; first | exact quiet_call (sPlcSide_c _ _ _ _) | exact quiet_call2 (sPlcSide_c _ _ _ _)) | (go_at_call 36; first | exact quiet_call (sOrdOk_c _ _) | exact quiet_call2 (sOrdOk_c _ _)) | (go_at_call 35; first | exact quiet_call (bareTFF_c _ _ _ _ _ _ _ _ _) | exact quiet_call2 (bareTFF_c _ _ _ _ _ _ _ _ _)))); (try rw [h1]); (try rw [h2]); (try rw [h3]); (try rw [h4]); (try rw [p1]); (try rw [p2]); (try rw [p3]); (try rw [p4]); (try rw [r1]); (try rw [r2]); (try rw [r3]); (try rw [r4]); (try rw [r5]); (try rw [r6]); (try rw [q3]); (try rw [q4]); (try rw [hp]); (try rw [hq]); go_big_quiet_on)))
          refine wpQuiet_nil ?_
          rintro _ ⟨tq, rfl⟩))
    go_ret
    refine ⟨ret_bool ?_, (by ((try simp only [ext_drew]); (try simp only [ext_ext]); repeat (first | exact Ext.refl _ | with_reducible apply Ext.add | with_reducible apply Ext.dr | apply Ext.alloc | apply Ext.ext | apply Ext.drew | refine Ext.trans ?_ (by assumption))))⟩
    have hs0 : (side == 0) = false := by have := inB_not.1 r1; simp; omega
    simp [msgOk, msgKind, Bool.and_assoc, h1, h2, h3, r1, hs0]
  | true =>
    cases r2 : (to_ == -1) with
    | false =>
      have q9 : (to_ != -1) = true := by simp only [bne, r2, Bool.not_false]
      go_enter Try.func7, Try.ntmps7
      try go_wp2_with (first
          | (go_at_call 32; refine (sPlcOk_c _ _).mono ?_; rintro e w' ⟨rfl, t, rfl⟩) | (go_at_call 33; refine (l1In_c _ _ _ _).mono ?_; rintro e w' ⟨rfl, rfl⟩) | (go_at_call 34; refine (sPlcSide_c _ _ _ _).mono ?_; rintro e w' ⟨rfl, t, rfl⟩) | (go_at_call 36; refine (sOrdOk_c _ _).mono ?_; rintro e w' ⟨rfl, t, rfl⟩) | (go_at_call 35; refine (bareTFF_c _ _ _ _ _ _ _ _ _).mono ?_; rintro e w' ⟨rfl, t, rfl⟩) | ((with_reducible refine load_gateG (T1 := 44) ?_); refine wpList_loadG (by rfl) _ _ rfl (w.heap.size + 1) #[.int .i64 3, .int .i64 to_, .int .i64 cell, .int .i64 side, .int .i64 n, .int .i64 o.who, .int .i64 o.seq, .int .i64 o.kind, .int .i64 o.to_, .int .i64 o.n, .int .i64 p.n, .int .i64 p.kind, .int .i64 p.wk.id, .int .i64 p.wk.at_, .int .i64 p.wk.coins, .int .i64 p.wk.seq, .int .i64 p.wk.last, .int .i64 p.coins, .int .i64 g.src, .int .i64 g.count, .int .i64 g.wk.id, .int .i64 g.wk.at_, .int .i64 g.wk.coins, .int .i64 g.wk.seq, .int .i64 g.wk.last] 44 _ rfl (by (repeat (first | with_reducible refine blk_ext ?_ | with_reducible apply blk_drew)); exact alloc_last (by (try simp [go_sem]) <;> (try simp [Xt.add]) <;> omega)) Try.underlying44 rfl (by kernel_rfl) ?_)
          | (
            with_reducible refine wp_region_mix (by kernel_rfl) (by decide +kernel) ?_
            repeat (first
              | (refine mix_pure rfl ?_; (first | go_big_quiet_skip | (go_big_quiet_want; go_big_quiet_op; go_big_quiet_on)); refine wpQuiet_nil ?_)
              | (refine mix_skip (by rfl) ?_; (try simp only [Act.put, List.setIfInBounds_toArray, List.set_cons_zero, List.set_cons_succ]))
              | (refine mix_mk rfl (by rfl) (fun K hK => ?_); (first | (go_simp; first | (go_at_call 32; refine (sPlcOk_c _ _).mono ?_; rintro e w' ⟨rfl, t, rfl⟩) | (go_at_call 33; refine (l1In_c _ _ _ _).mono ?_; rintro e w' ⟨rfl, rfl⟩) | (go_at_call 34; refine (sPlcSide_c _ _ _ _).mono ?_; rintro e w' ⟨rfl, t, rfl⟩) | (go_at_call 36; refine (sOrdOk_c _ _).mono ?_; rintro e w' ⟨rfl, t, rfl⟩) | (go_at_call 35; refine (bareTFF_c _ _ _ _ _ _ _ _ _).mono ?_; rintro e w' ⟨rfl, t, rfl⟩) | ((with_reducible refine load_gateG (T1 := 44) ?_); refine wpList_loadG (by rfl) _ _ rfl (w.heap.size + 1) #[.int .i64 3, .int .i64 to_, .int .i64 cell, .int .i64 side, .int .i64 n, .int .i64 o.who, .int .i64 o.seq, .int .i64 o.kind, .int .i64 o.to_, .int .i64 o.n, .int .i64 p.n, .int .i64 p.kind, .int .i64 p.wk.id, .int .i64 p.wk.at_, .int .i64 p.wk.coins, .int .i64 p.wk.seq, .int .i64 p.wk.last, .int .i64 p.coins, .int .i64 g.src, .int .i64 g.count, .int .i64 g.wk.id, .int .i64 g.wk.at_, .int .i64 g.wk.coins, .int .i64 g.wk.seq, .int .i64 g.wk.last] 44 _ rfl (by (repeat (first | with_reducible refine blk_ext ?_ | with_reducible apply blk_drew)); exact alloc_last (by (try simp [go_sem]) <;> (try simp [Xt.add]) <;> omega)) Try.underlying44 rfl (by kernel_rfl) ?_) | skip)); (show K _ _); refine hK _ _ (show Ext _ _ from (by ((try simp only [ext_drew]); (try simp only [ext_ext]); repeat (first | exact Ext.refl _ | with_reducible apply Ext.add | with_reducible apply Ext.dr | apply Ext.alloc | apply Ext.ext | apply Ext.drew | refine Ext.trans ?_ (by assumption))))) ?_; clear hK K; (try simp only [Act.put, List.setIfInBounds_toArray, List.set_cons_zero, List.set_cons_succ])))
            refine mix_nil ?_)
          | (
            with_reducible refine wp_region_ext (by kernel_rfl) (by kernel_rfl) ?_
            repeat (first | go_big_quiet_skip | (go_big_quiet_want; go_big_quiet_op; first | go_big_quiet_on | (apply Exists.intro; refine ⟨fun _ => ?_, ?_⟩; ((first | (go_at_call 32; first | exact quiet_call (sPlcOk_c _ _) | exact quiet_call2 (sPlcOk_c _ _)) | (go_at_call 33; first | exact quiet_same (l1In_c _ _ _ _) | exact quiet_same2 (l1In_c _ _ _ _)) | (go_at_call 34; first | exact quiet_call (sPlcSide_c _ _ _ _) | exact quiet_call2 (sPlcSide_c _ _ _ _)) | (go_at_call 36; first | exact quiet_call (sOrdOk_c _ _) | exact quiet_call2 (sOrdOk_c _ _)) | (go_at_call 35; first | exact quiet_call (bareTFF_c _ _ _ _ _ _ _ _ _) | exact quiet_call2 (bareTFF_c _ _ _ _ _ _ _ _ _)))); (try rw [h1]); (try rw [h2]); (try rw [h3]); (try rw [h4]); (try rw [p1]); (try rw [p2]); (try rw [p3]); (try rw [p4]); (try rw [r1]); (try rw [r2]); (try rw [r3]); (try rw [r4]); (try rw [r5]); (try rw [r6]); (try rw [q3]); (try rw [q4]); (try rw [hp]); (try rw [hq]); go_big_quiet_on)))
            refine wpQuiet_nil ?_
            rintro _ ⟨tq, rfl⟩))
      go_ret
      refine ⟨ret_bool ?_, (by ((try simp only [ext_drew]); (try simp only [ext_ext]); repeat (first | exact Ext.refl _ | with_reducible apply Ext.add | with_reducible apply Ext.dr | apply Ext.alloc | apply Ext.ext | apply Ext.drew | refine Ext.trans ?_ (by assumption))))⟩
      simp [msgOk, msgKind, Bool.and_assoc, h1, h2, h3, r1, r2]
    | true =>
      have q9 : (to_ != -1) = false := by simp only [bne, r2, Bool.not_true]
      cases r3 : (side == 0) with
      | false =>
        go_enter Try.func7, Try.ntmps7
        try go_wp2_with (first
            | (go_at_call 32; refine (sPlcOk_c _ _).mono ?_; rintro e w' ⟨rfl, t, rfl⟩) | (go_at_call 33; refine (l1In_c _ _ _ _).mono ?_; rintro e w' ⟨rfl, rfl⟩) | (go_at_call 34; refine (sPlcSide_c _ _ _ _).mono ?_; rintro e w' ⟨rfl, t, rfl⟩) | (go_at_call 36; refine (sOrdOk_c _ _).mono ?_; rintro e w' ⟨rfl, t, rfl⟩) | (go_at_call 35; refine (bareTFF_c _ _ _ _ _ _ _ _ _).mono ?_; rintro e w' ⟨rfl, t, rfl⟩) | ((with_reducible refine load_gateG (T1 := 44) ?_); refine wpList_loadG (by rfl) _ _ rfl (w.heap.size + 1) #[.int .i64 3, .int .i64 to_, .int .i64 cell, .int .i64 side, .int .i64 n, .int .i64 o.who, .int .i64 o.seq, .int .i64 o.kind, .int .i64 o.to_, .int .i64 o.n, .int .i64 p.n, .int .i64 p.kind, .int .i64 p.wk.id, .int .i64 p.wk.at_, .int .i64 p.wk.coins, .int .i64 p.wk.seq, .int .i64 p.wk.last, .int .i64 p.coins, .int .i64 g.src, .int .i64 g.count, .int .i64 g.wk.id, .int .i64 g.wk.at_, .int .i64 g.wk.coins, .int .i64 g.wk.seq, .int .i64 g.wk.last] 44 _ rfl (by (repeat (first | with_reducible refine blk_ext ?_ | with_reducible apply blk_drew)); exact alloc_last (by (try simp [go_sem]) <;> (try simp [Xt.add]) <;> omega)) Try.underlying44 rfl (by kernel_rfl) ?_)
            | (
              with_reducible refine wp_region_mix (by kernel_rfl) (by decide +kernel) ?_
              repeat (first
                | (refine mix_pure rfl ?_; (first | go_big_quiet_skip | (go_big_quiet_want; go_big_quiet_op; go_big_quiet_on)); refine wpQuiet_nil ?_)
                | (refine mix_skip (by rfl) ?_; (try simp only [Act.put, List.setIfInBounds_toArray, List.set_cons_zero, List.set_cons_succ]))
                | (refine mix_mk rfl (by rfl) (fun K hK => ?_); (first | (go_simp; first | (go_at_call 32; refine (sPlcOk_c _ _).mono ?_; rintro e w' ⟨rfl, t, rfl⟩) | (go_at_call 33; refine (l1In_c _ _ _ _).mono ?_; rintro e w' ⟨rfl, rfl⟩) | (go_at_call 34; refine (sPlcSide_c _ _ _ _).mono ?_; rintro e w' ⟨rfl, t, rfl⟩) | (go_at_call 36; refine (sOrdOk_c _ _).mono ?_; rintro e w' ⟨rfl, t, rfl⟩) | (go_at_call 35; refine (bareTFF_c _ _ _ _ _ _ _ _ _).mono ?_; rintro e w' ⟨rfl, t, rfl⟩) | ((with_reducible refine load_gateG (T1 := 44) ?_); refine wpList_loadG (by rfl) _ _ rfl (w.heap.size + 1) #[.int .i64 3, .int .i64 to_, .int .i64 cell, .int .i64 side, .int .i64 n, .int .i64 o.who, .int .i64 o.seq, .int .i64 o.kind, .int .i64 o.to_, .int .i64 o.n, .int .i64 p.n, .int .i64 p.kind, .int .i64 p.wk.id, .int .i64 p.wk.at_, .int .i64 p.wk.coins, .int .i64 p.wk.seq, .int .i64 p.wk.last, .int .i64 p.coins, .int .i64 g.src, .int .i64 g.count, .int .i64 g.wk.id, .int .i64 g.wk.at_, .int .i64 g.wk.coins, .int .i64 g.wk.seq, .int .i64 g.wk.last] 44 _ rfl (by (repeat (first | with_reducible refine blk_ext ?_ | with_reducible apply blk_drew)); exact alloc_last (by (try simp [go_sem]) <;> (try simp [Xt.add]) <;> omega)) Try.underlying44 rfl (by kernel_rfl) ?_) | skip)); (show K _ _); refine hK _ _ (show Ext _ _ from (by ((try simp only [ext_drew]); (try simp only [ext_ext]); repeat (first | exact Ext.refl _ | with_reducible apply Ext.add | with_reducible apply Ext.dr | apply Ext.alloc | apply Ext.ext | apply Ext.drew | refine Ext.trans ?_ (by assumption))))) ?_; clear hK K; (try simp only [Act.put, List.setIfInBounds_toArray, List.set_cons_zero, List.set_cons_succ])))
              refine mix_nil ?_)
            | (
              with_reducible refine wp_region_ext (by kernel_rfl) (by kernel_rfl) ?_
              repeat (first | go_big_quiet_skip | (go_big_quiet_want; go_big_quiet_op; first | go_big_quiet_on | (apply Exists.intro; refine ⟨fun _ => ?_, ?_⟩; ((first | (go_at_call 32; first | exact quiet_call (sPlcOk_c _ _) | exact quiet_call2 (sPlcOk_c _ _)) | (go_at_call 33; first | exact quiet_same (l1In_c _ _ _ _) | exact quiet_same2 (l1In_c _ _ _ _)) | (go_at_call 34; first | exact quiet_call (sPlcSide_c _ _ _ _) | exact quiet_call2 (sPlcSide_c _ _ _ _)) | (go_at_call 36; first | exact quiet_call (sOrdOk_c _ _) | exact quiet_call2 (sOrdOk_c _ _)) | (go_at_call 35; first | exact quiet_call (bareTFF_c _ _ _ _ _ _ _ _ _) | exact quiet_call2 (bareTFF_c _ _ _ _ _ _ _ _ _)))); (try rw [h1]); (try rw [h2]); (try rw [h3]); (try rw [h4]); (try rw [p1]); (try rw [p2]); (try rw [p3]); (try rw [p4]); (try rw [r1]); (try rw [r2]); (try rw [r3]); (try rw [r4]); (try rw [r5]); (try rw [r6]); (try rw [q3]); (try rw [q4]); (try rw [hp]); (try rw [hq]); go_big_quiet_on)))
              refine wpQuiet_nil ?_
              rintro _ ⟨tq, rfl⟩))
        go_ret
        refine ⟨ret_bool ?_, (by ((try simp only [ext_drew]); (try simp only [ext_ext]); repeat (first | exact Ext.refl _ | with_reducible apply Ext.add | with_reducible apply Ext.dr | apply Ext.alloc | apply Ext.ext | apply Ext.drew | refine Ext.trans ?_ (by assumption))))⟩
        simp [msgOk, msgKind, Bool.and_assoc, h1, h2, h3, r1, r2, r3]
      | true =>
        cases r4 : inB n 1 9 with
        | false =>
          go_enter Try.func7, Try.ntmps7
          try go_wp2_with (first
              | (go_at_call 32; refine (sPlcOk_c _ _).mono ?_; rintro e w' ⟨rfl, t, rfl⟩) | (go_at_call 33; refine (l1In_c _ _ _ _).mono ?_; rintro e w' ⟨rfl, rfl⟩) | (go_at_call 34; refine (sPlcSide_c _ _ _ _).mono ?_; rintro e w' ⟨rfl, t, rfl⟩) | (go_at_call 36; refine (sOrdOk_c _ _).mono ?_; rintro e w' ⟨rfl, t, rfl⟩) | (go_at_call 35; refine (bareTFF_c _ _ _ _ _ _ _ _ _).mono ?_; rintro e w' ⟨rfl, t, rfl⟩) | ((with_reducible refine load_gateG (T1 := 44) ?_); refine wpList_loadG (by rfl) _ _ rfl (w.heap.size + 1) #[.int .i64 3, .int .i64 to_, .int .i64 cell, .int .i64 side, .int .i64 n, .int .i64 o.who, .int .i64 o.seq, .int .i64 o.kind, .int .i64 o.to_, .int .i64 o.n, .int .i64 p.n, .int .i64 p.kind, .int .i64 p.wk.id, .int .i64 p.wk.at_, .int .i64 p.wk.coins, .int .i64 p.wk.seq, .int .i64 p.wk.last, .int .i64 p.coins, .int .i64 g.src, .int .i64 g.count, .int .i64 g.wk.id, .int .i64 g.wk.at_, .int .i64 g.wk.coins, .int .i64 g.wk.seq, .int .i64 g.wk.last] 44 _ rfl (by (repeat (first | with_reducible refine blk_ext ?_ | with_reducible apply blk_drew)); exact alloc_last (by (try simp [go_sem]) <;> (try simp [Xt.add]) <;> omega)) Try.underlying44 rfl (by kernel_rfl) ?_)
              | (
                with_reducible refine wp_region_mix (by kernel_rfl) (by decide +kernel) ?_
                repeat (first
                  | (refine mix_pure rfl ?_; (first | go_big_quiet_skip | (go_big_quiet_want; go_big_quiet_op; go_big_quiet_on)); refine wpQuiet_nil ?_)
                  | (refine mix_skip (by rfl) ?_; (try simp only [Act.put, List.setIfInBounds_toArray, List.set_cons_zero, List.set_cons_succ]))
                  | (refine mix_mk rfl (by rfl) (fun K hK => ?_); (first | (go_simp; first | (go_at_call 32; refine (sPlcOk_c _ _).mono ?_; rintro e w' ⟨rfl, t, rfl⟩) | (go_at_call 33; refine (l1In_c _ _ _ _).mono ?_; rintro e w' ⟨rfl, rfl⟩) | (go_at_call 34; refine (sPlcSide_c _ _ _ _).mono ?_; rintro e w' ⟨rfl, t, rfl⟩) | (go_at_call 36; refine (sOrdOk_c _ _).mono ?_; rintro e w' ⟨rfl, t, rfl⟩) | (go_at_call 35; refine (bareTFF_c _ _ _ _ _ _ _ _ _).mono ?_; rintro e w' ⟨rfl, t, rfl⟩) | ((with_reducible refine load_gateG (T1 := 44) ?_); refine wpList_loadG (by rfl) _ _ rfl (w.heap.size + 1) #[.int .i64 3, .int .i64 to_, .int .i64 cell, .int .i64 side, .int .i64 n, .int .i64 o.who, .int .i64 o.seq, .int .i64 o.kind, .int .i64 o.to_, .int .i64 o.n, .int .i64 p.n, .int .i64 p.kind, .int .i64 p.wk.id, .int .i64 p.wk.at_, .int .i64 p.wk.coins, .int .i64 p.wk.seq, .int .i64 p.wk.last, .int .i64 p.coins, .int .i64 g.src, .int .i64 g.count, .int .i64 g.wk.id, .int .i64 g.wk.at_, .int .i64 g.wk.coins, .int .i64 g.wk.seq, .int .i64 g.wk.last] 44 _ rfl (by (repeat (first | with_reducible refine blk_ext ?_ | with_reducible apply blk_drew)); exact alloc_last (by (try simp [go_sem]) <;> (try simp [Xt.add]) <;> omega)) Try.underlying44 rfl (by kernel_rfl) ?_) | skip)); (show K _ _); refine hK _ _ (show Ext _ _ from (by ((try simp only [ext_drew]); (try simp only [ext_ext]); repeat (first | exact Ext.refl _ | with_reducible apply Ext.add | with_reducible apply Ext.dr | apply Ext.alloc | apply Ext.ext | apply Ext.drew | refine Ext.trans ?_ (by assumption))))) ?_; clear hK K; (try simp only [Act.put, List.setIfInBounds_toArray, List.set_cons_zero, List.set_cons_succ])))
                refine mix_nil ?_)
              | (
                with_reducible refine wp_region_ext (by kernel_rfl) (by kernel_rfl) ?_
                repeat (first | go_big_quiet_skip | (go_big_quiet_want; go_big_quiet_op; first | go_big_quiet_on | (apply Exists.intro; refine ⟨fun _ => ?_, ?_⟩; ((first | (go_at_call 32; first | exact quiet_call (sPlcOk_c _ _) | exact quiet_call2 (sPlcOk_c _ _)) | (go_at_call 33; first | exact quiet_same (l1In_c _ _ _ _) | exact quiet_same2 (l1In_c _ _ _ _)) | (go_at_call 34; first | exact quiet_call (sPlcSide_c _ _ _ _) | exact quiet_call2 (sPlcSide_c _ _ _ _)) | (go_at_call 36; first | exact quiet_call (sOrdOk_c _ _) | exact quiet_call2 (sOrdOk_c _ _)) | (go_at_call 35; first | exact quiet_call (bareTFF_c _ _ _ _ _ _ _ _ _) | exact quiet_call2 (bareTFF_c _ _ _ _ _ _ _ _ _)))); (try rw [h1]); (try rw [h2]); (try rw [h3]); (try rw [h4]); (try rw [p1]); (try rw [p2]); (try rw [p3]); (try rw [p4]); (try rw [r1]); (try rw [r2]); (try rw [r3]); (try rw [r4]); (try rw [r5]); (try rw [r6]); (try rw [q3]); (try rw [q4]); (try rw [hp]); (try rw [hq]); go_big_quiet_on)))
                refine wpQuiet_nil ?_
                rintro _ ⟨tq, rfl⟩))
          go_ret
          refine ⟨ret_bool ?_, (by ((try simp only [ext_drew]); (try simp only [ext_ext]); repeat (first | exact Ext.refl _ | with_reducible apply Ext.add | with_reducible apply Ext.dr | apply Ext.alloc | apply Ext.ext | apply Ext.drew | refine Ext.trans ?_ (by assumption))))⟩
          simp [msgOk, msgKind, Bool.and_assoc, h1, h2, h3, r1, r2, r3, r4]
        | true =>
          cases r5 : ordOk o with
          | false =>
            go_enter Try.func7, Try.ntmps7
            try go_wp2_with (first
                | (go_at_call 32; refine (sPlcOk_c _ _).mono ?_; rintro e w' ⟨rfl, t, rfl⟩) | (go_at_call 33; refine (l1In_c _ _ _ _).mono ?_; rintro e w' ⟨rfl, rfl⟩) | (go_at_call 34; refine (sPlcSide_c _ _ _ _).mono ?_; rintro e w' ⟨rfl, t, rfl⟩) | (go_at_call 36; refine (sOrdOk_c _ _).mono ?_; rintro e w' ⟨rfl, t, rfl⟩) | (go_at_call 35; refine (bareTFF_c _ _ _ _ _ _ _ _ _).mono ?_; rintro e w' ⟨rfl, t, rfl⟩) | ((with_reducible refine load_gateG (T1 := 44) ?_); refine wpList_loadG (by rfl) _ _ rfl (w.heap.size + 1) #[.int .i64 3, .int .i64 to_, .int .i64 cell, .int .i64 side, .int .i64 n, .int .i64 o.who, .int .i64 o.seq, .int .i64 o.kind, .int .i64 o.to_, .int .i64 o.n, .int .i64 p.n, .int .i64 p.kind, .int .i64 p.wk.id, .int .i64 p.wk.at_, .int .i64 p.wk.coins, .int .i64 p.wk.seq, .int .i64 p.wk.last, .int .i64 p.coins, .int .i64 g.src, .int .i64 g.count, .int .i64 g.wk.id, .int .i64 g.wk.at_, .int .i64 g.wk.coins, .int .i64 g.wk.seq, .int .i64 g.wk.last] 44 _ rfl (by (repeat (first | with_reducible refine blk_ext ?_ | with_reducible apply blk_drew)); exact alloc_last (by (try simp [go_sem]) <;> (try simp [Xt.add]) <;> omega)) Try.underlying44 rfl (by kernel_rfl) ?_)
                | (
                  with_reducible refine wp_region_mix (by kernel_rfl) (by decide +kernel) ?_
                  repeat (first
                    | (refine mix_pure rfl ?_; (first | go_big_quiet_skip | (go_big_quiet_want; go_big_quiet_op; go_big_quiet_on)); refine wpQuiet_nil ?_)
                    | (refine mix_skip (by rfl) ?_; (try simp only [Act.put, List.setIfInBounds_toArray, List.set_cons_zero, List.set_cons_succ]))
                    | (refine mix_mk rfl (by rfl) (fun K hK => ?_); (first | (go_simp; first | (go_at_call 32; refine (sPlcOk_c _ _).mono ?_; rintro e w' ⟨rfl, t, rfl⟩) | (go_at_call 33; refine (l1In_c _ _ _ _).mono ?_; rintro e w' ⟨rfl, rfl⟩) | (go_at_call 34; refine (sPlcSide_c _ _ _ _).mono ?_; rintro e w' ⟨rfl, t, rfl⟩) | (go_at_call 36; refine (sOrdOk_c _ _).mono ?_; rintro e w' ⟨rfl, t, rfl⟩) | (go_at_call 35; refine (bareTFF_c _ _ _ _ _ _ _ _ _).mono ?_; rintro e w' ⟨rfl, t, rfl⟩) | ((with_reducible refine load_gateG (T1 := 44) ?_); refine wpList_loadG (by rfl) _ _ rfl (w.heap.size + 1) #[.int .i64 3, .int .i64 to_, .int .i64 cell, .int .i64 side, .int .i64 n, .int .i64 o.who, .int .i64 o.seq, .int .i64 o.kind, .int .i64 o.to_, .int .i64 o.n, .int .i64 p.n, .int .i64 p.kind, .int .i64 p.wk.id, .int .i64 p.wk.at_, .int .i64 p.wk.coins, .int .i64 p.wk.seq, .int .i64 p.wk.last, .int .i64 p.coins, .int .i64 g.src, .int .i64 g.count, .int .i64 g.wk.id, .int .i64 g.wk.at_, .int .i64 g.wk.coins, .int .i64 g.wk.seq, .int .i64 g.wk.last] 44 _ rfl (by (repeat (first | with_reducible refine blk_ext ?_ | with_reducible apply blk_drew)); exact alloc_last (by (try simp [go_sem]) <;> (try simp [Xt.add]) <;> omega)) Try.underlying44 rfl (by kernel_rfl) ?_) | skip)); (show K _ _); refine hK _ _ (show Ext _ _ from (by ((try simp only [ext_drew]); (try simp only [ext_ext]); repeat (first | exact Ext.refl _ | with_reducible apply Ext.add | with_reducible apply Ext.dr | apply Ext.alloc | apply Ext.ext | apply Ext.drew | refine Ext.trans ?_ (by assumption))))) ?_; clear hK K; (try simp only [Act.put, List.setIfInBounds_toArray, List.set_cons_zero, List.set_cons_succ])))
                  refine mix_nil ?_)
                | (
                  with_reducible refine wp_region_ext (by kernel_rfl) (by kernel_rfl) ?_
                  repeat (first | go_big_quiet_skip | (go_big_quiet_want; go_big_quiet_op; first | go_big_quiet_on | (apply Exists.intro; refine ⟨fun _ => ?_, ?_⟩; ((first | (go_at_call 32; first | exact quiet_call (sPlcOk_c _ _) | exact quiet_call2 (sPlcOk_c _ _)) | (go_at_call 33; first | exact quiet_same (l1In_c _ _ _ _) | exact quiet_same2 (l1In_c _ _ _ _)) | (go_at_call 34; first | exact quiet_call (sPlcSide_c _ _ _ _) | exact quiet_call2 (sPlcSide_c _ _ _ _)) | (go_at_call 36; first | exact quiet_call (sOrdOk_c _ _) | exact quiet_call2 (sOrdOk_c _ _)) | (go_at_call 35; first | exact quiet_call (bareTFF_c _ _ _ _ _ _ _ _ _) | exact quiet_call2 (bareTFF_c _ _ _ _ _ _ _ _ _)))); (try rw [h1]); (try rw [h2]); (try rw [h3]); (try rw [h4]); (try rw [p1]); (try rw [p2]); (try rw [p3]); (try rw [p4]); (try rw [r1]); (try rw [r2]); (try rw [r3]); (try rw [r4]); (try rw [r5]); (try rw [r6]); (try rw [q3]); (try rw [q4]); (try rw [hp]); (try rw [hq]); go_big_quiet_on)))
                  refine wpQuiet_nil ?_
                  rintro _ ⟨tq, rfl⟩))
            go_ret
            refine ⟨ret_bool ?_, (by ((try simp only [ext_drew]); (try simp only [ext_ext]); repeat (first | exact Ext.refl _ | with_reducible apply Ext.add | with_reducible apply Ext.dr | apply Ext.alloc | apply Ext.ext | apply Ext.drew | refine Ext.trans ?_ (by assumption))))⟩
            simp [msgOk, msgKind, Bool.and_assoc, h1, h2, h3, r1, r2, r3, r4, r5]
          | true =>
            go_enter Try.func7, Try.ntmps7
            try go_wp2_with (first
                | (go_at_call 32; refine (sPlcOk_c _ _).mono ?_; rintro e w' ⟨rfl, t, rfl⟩) | (go_at_call 33; refine (l1In_c _ _ _ _).mono ?_; rintro e w' ⟨rfl, rfl⟩) | (go_at_call 34; refine (sPlcSide_c _ _ _ _).mono ?_; rintro e w' ⟨rfl, t, rfl⟩) | (go_at_call 36; refine (sOrdOk_c _ _).mono ?_; rintro e w' ⟨rfl, t, rfl⟩) | (go_at_call 35; refine (bareTFF_c _ _ _ _ _ _ _ _ _).mono ?_; rintro e w' ⟨rfl, t, rfl⟩) | ((with_reducible refine load_gateG (T1 := 44) ?_); refine wpList_loadG (by rfl) _ _ rfl (w.heap.size + 1) #[.int .i64 3, .int .i64 to_, .int .i64 cell, .int .i64 side, .int .i64 n, .int .i64 o.who, .int .i64 o.seq, .int .i64 o.kind, .int .i64 o.to_, .int .i64 o.n, .int .i64 p.n, .int .i64 p.kind, .int .i64 p.wk.id, .int .i64 p.wk.at_, .int .i64 p.wk.coins, .int .i64 p.wk.seq, .int .i64 p.wk.last, .int .i64 p.coins, .int .i64 g.src, .int .i64 g.count, .int .i64 g.wk.id, .int .i64 g.wk.at_, .int .i64 g.wk.coins, .int .i64 g.wk.seq, .int .i64 g.wk.last] 44 _ rfl (by (repeat (first | with_reducible refine blk_ext ?_ | with_reducible apply blk_drew)); exact alloc_last (by (try simp [go_sem]) <;> (try simp [Xt.add]) <;> omega)) Try.underlying44 rfl (by kernel_rfl) ?_)
                | (
                  with_reducible refine wp_region_mix (by kernel_rfl) (by decide +kernel) ?_
                  repeat (first
                    | (refine mix_pure rfl ?_; (first | go_big_quiet_skip | (go_big_quiet_want; go_big_quiet_op; go_big_quiet_on)); refine wpQuiet_nil ?_)
                    | (refine mix_skip (by rfl) ?_; (try simp only [Act.put, List.setIfInBounds_toArray, List.set_cons_zero, List.set_cons_succ]))
                    | (refine mix_mk rfl (by rfl) (fun K hK => ?_); (first | (go_simp; first | (go_at_call 32; refine (sPlcOk_c _ _).mono ?_; rintro e w' ⟨rfl, t, rfl⟩) | (go_at_call 33; refine (l1In_c _ _ _ _).mono ?_; rintro e w' ⟨rfl, rfl⟩) | (go_at_call 34; refine (sPlcSide_c _ _ _ _).mono ?_; rintro e w' ⟨rfl, t, rfl⟩) | (go_at_call 36; refine (sOrdOk_c _ _).mono ?_; rintro e w' ⟨rfl, t, rfl⟩) | (go_at_call 35; refine (bareTFF_c _ _ _ _ _ _ _ _ _).mono ?_; rintro e w' ⟨rfl, t, rfl⟩) | ((with_reducible refine load_gateG (T1 := 44) ?_); refine wpList_loadG (by rfl) _ _ rfl (w.heap.size + 1) #[.int .i64 3, .int .i64 to_, .int .i64 cell, .int .i64 side, .int .i64 n, .int .i64 o.who, .int .i64 o.seq, .int .i64 o.kind, .int .i64 o.to_, .int .i64 o.n, .int .i64 p.n, .int .i64 p.kind, .int .i64 p.wk.id, .int .i64 p.wk.at_, .int .i64 p.wk.coins, .int .i64 p.wk.seq, .int .i64 p.wk.last, .int .i64 p.coins, .int .i64 g.src, .int .i64 g.count, .int .i64 g.wk.id, .int .i64 g.wk.at_, .int .i64 g.wk.coins, .int .i64 g.wk.seq, .int .i64 g.wk.last] 44 _ rfl (by (repeat (first | with_reducible refine blk_ext ?_ | with_reducible apply blk_drew)); exact alloc_last (by (try simp [go_sem]) <;> (try simp [Xt.add]) <;> omega)) Try.underlying44 rfl (by kernel_rfl) ?_) | skip)); (show K _ _); refine hK _ _ (show Ext _ _ from (by ((try simp only [ext_drew]); (try simp only [ext_ext]); repeat (first | exact Ext.refl _ | with_reducible apply Ext.add | with_reducible apply Ext.dr | apply Ext.alloc | apply Ext.ext | apply Ext.drew | refine Ext.trans ?_ (by assumption))))) ?_; clear hK K; (try simp only [Act.put, List.setIfInBounds_toArray, List.set_cons_zero, List.set_cons_succ])))
                  refine mix_nil ?_)
                | (
                  with_reducible refine wp_region_ext (by kernel_rfl) (by kernel_rfl) ?_
                  repeat (first | go_big_quiet_skip | (go_big_quiet_want; go_big_quiet_op; first | go_big_quiet_on | (apply Exists.intro; refine ⟨fun _ => ?_, ?_⟩; ((first | (go_at_call 32; first | exact quiet_call (sPlcOk_c _ _) | exact quiet_call2 (sPlcOk_c _ _)) | (go_at_call 33; first | exact quiet_same (l1In_c _ _ _ _) | exact quiet_same2 (l1In_c _ _ _ _)) | (go_at_call 34; first | exact quiet_call (sPlcSide_c _ _ _ _) | exact quiet_call2 (sPlcSide_c _ _ _ _)) | (go_at_call 36; first | exact quiet_call (sOrdOk_c _ _) | exact quiet_call2 (sOrdOk_c _ _)) | (go_at_call 35; first | exact quiet_call (bareTFF_c _ _ _ _ _ _ _ _ _) | exact quiet_call2 (bareTFF_c _ _ _ _ _ _ _ _ _)))); (try rw [h1]); (try rw [h2]); (try rw [h3]); (try rw [h4]); (try rw [p1]); (try rw [p2]); (try rw [p3]); (try rw [p4]); (try rw [r1]); (try rw [r2]); (try rw [r3]); (try rw [r4]); (try rw [r5]); (try rw [r6]); (try rw [q3]); (try rw [q4]); (try rw [hp]); (try rw [hq]); go_big_quiet_on)))
                  refine wpQuiet_nil ?_
                  rintro _ ⟨tq, rfl⟩))
            go_ret
            refine ⟨ret_bool ?_, (by ((try simp only [ext_drew]); (try simp only [ext_ext]); repeat (first | exact Ext.refl _ | with_reducible apply Ext.add | with_reducible apply Ext.dr | apply Ext.alloc | apply Ext.ext | apply Ext.drew | refine Ext.trans ?_ (by assumption))))⟩
            simp [msgOk, msgKind, Bool.and_assoc, h1, h2, h3, r1, r2, r3, r4, r5]
set_option maxRecDepth 100000 in
set_option maxHeartbeats 4000000 in
theorem sMsgOk_k4 (m : Mp) (s to_ cell side n : Int) (o : Ord) (p : Pcl) (g : Gst) (w : World) (h1 : plcOk m = true) (h2 : inB s 1 3 = true) (h3 : inB cell 0 (m.c - 1) = true) (s1 : 1 ≤ s) (s2 : s ≤ 3) (m1 : 2 ≤ m.c) (m2 : m.c ≤ 4) :
    Calls Try.prog 7 #[.agg #[.int .i64 m.c, .int .i64 m.w], .int .i64 s, .agg #[.int .i64 4, .int .i64 to_, .int .i64 cell, .int .i64 side, .int .i64 n, .int .i64 o.who, .int .i64 o.seq, .int .i64 o.kind, .int .i64 o.to_, .int .i64 o.n, .int .i64 p.n, .int .i64 p.kind, .int .i64 p.wk.id, .int .i64 p.wk.at_, .int .i64 p.wk.coins, .int .i64 p.wk.seq, .int .i64 p.wk.last, .int .i64 p.coins, .int .i64 g.src, .int .i64 g.count, .int .i64 g.wk.id, .int .i64 g.wk.at_, .int .i64 g.wk.coins, .int .i64 g.wk.seq, .int .i64 g.wk.last]] w fun e w' => e = .returned (.bool (msgOk m s ⟨4, to_, cell, side, n, o, p, g⟩)) ∧ Ext w w' := by
  cases r1 : inB side 0 1 with
  | false =>
    go_enter Try.func7, Try.ntmps7
    try go_wp2_with (first
        | (go_at_call 32; refine (sPlcOk_c _ _).mono ?_; rintro e w' ⟨rfl, t, rfl⟩) | (go_at_call 33; refine (l1In_c _ _ _ _).mono ?_; rintro e w' ⟨rfl, rfl⟩) | (go_at_call 34; refine (sPlcSide_c _ _ _ _).mono ?_; rintro e w' ⟨rfl, t, rfl⟩) | (go_at_call 36; refine (sOrdOk_c _ _).mono ?_; rintro e w' ⟨rfl, t, rfl⟩) | (go_at_call 35; refine (bareTFF_c _ _ _ _ _ _ _ _ _).mono ?_; rintro e w' ⟨rfl, t, rfl⟩) | ((with_reducible refine load_gateG (T1 := 44) ?_); refine wpList_loadG (by rfl) _ _ rfl (w.heap.size + 1) #[.int .i64 4, .int .i64 to_, .int .i64 cell, .int .i64 side, .int .i64 n, .int .i64 o.who, .int .i64 o.seq, .int .i64 o.kind, .int .i64 o.to_, .int .i64 o.n, .int .i64 p.n, .int .i64 p.kind, .int .i64 p.wk.id, .int .i64 p.wk.at_, .int .i64 p.wk.coins, .int .i64 p.wk.seq, .int .i64 p.wk.last, .int .i64 p.coins, .int .i64 g.src, .int .i64 g.count, .int .i64 g.wk.id, .int .i64 g.wk.at_, .int .i64 g.wk.coins, .int .i64 g.wk.seq, .int .i64 g.wk.last] 44 _ rfl (by (repeat (first | with_reducible refine blk_ext ?_ | with_reducible apply blk_drew)); exact alloc_last (by (try simp [go_sem]) <;> (try simp [Xt.add]) <;> omega)) Try.underlying44 rfl (by kernel_rfl) ?_)
        | (
          with_reducible refine wp_region_mix (by kernel_rfl) (by decide +kernel) ?_
          repeat (first
            | (refine mix_pure rfl ?_; (first | go_big_quiet_skip | (go_big_quiet_want; go_big_quiet_op; go_big_quiet_on)); refine wpQuiet_nil ?_)
            | (refine mix_skip (by rfl) ?_; (try simp only [Act.put, List.setIfInBounds_toArray, List.set_cons_zero, List.set_cons_succ]))
            | (refine mix_mk rfl (by rfl) (fun K hK => ?_); (first | (go_simp; first | (go_at_call 32; refine (sPlcOk_c _ _).mono ?_; rintro e w' ⟨rfl, t, rfl⟩) | (go_at_call 33; refine (l1In_c _ _ _ _).mono ?_; rintro e w' ⟨rfl, rfl⟩) | (go_at_call 34; refine (sPlcSide_c _ _ _ _).mono ?_; rintro e w' ⟨rfl, t, rfl⟩) | (go_at_call 36; refine (sOrdOk_c _ _).mono ?_; rintro e w' ⟨rfl, t, rfl⟩) | (go_at_call 35; refine (bareTFF_c _ _ _ _ _ _ _ _ _).mono ?_; rintro e w' ⟨rfl, t, rfl⟩) | ((with_reducible refine load_gateG (T1 := 44) ?_); refine wpList_loadG (by rfl) _ _ rfl (w.heap.size + 1) #[.int .i64 4, .int .i64 to_, .int .i64 cell, .int .i64 side, .int .i64 n, .int .i64 o.who, .int .i64 o.seq, .int .i64 o.kind, .int .i64 o.to_, .int .i64 o.n, .int .i64 p.n, .int .i64 p.kind, .int .i64 p.wk.id, .int .i64 p.wk.at_, .int .i64 p.wk.coins, .int .i64 p.wk.seq, .int .i64 p.wk.last, .int .i64 p.coins, .int .i64 g.src, .int .i64 g.count, .int .i64 g.wk.id, .int .i64 g.wk.at_, .int .i64 g.wk.coins, .int .i64 g.wk.seq, .int .i64 g.wk.last] 44 _ rfl (by (repeat (first | with_reducible refine blk_ext ?_ | with_reducible apply blk_drew)); exact alloc_last (by (try simp [go_sem]) <;> (try simp [Xt.add]) <;> omega)) Try.underlying44 rfl (by kernel_rfl) ?_) | skip)); (show K _ _); refine hK _ _ (show Ext _ _ from (by ((try simp only [ext_drew]); (try simp only [ext_ext]); repeat (first | exact Ext.refl _ | with_reducible apply Ext.add | with_reducible apply Ext.dr | apply Ext.alloc | apply Ext.ext | apply Ext.drew | refine Ext.trans ?_ (by assumption))))) ?_; clear hK K; (try simp only [Act.put, List.setIfInBounds_toArray, List.set_cons_zero, List.set_cons_succ])))
          refine mix_nil ?_)
        | (
          with_reducible refine wp_region_ext (by kernel_rfl) (by kernel_rfl) ?_
          repeat (first | go_big_quiet_skip | (go_big_quiet_want; go_big_quiet_op; first | go_big_quiet_on | (apply Exists.intro; refine ⟨fun _ => ?_, ?_⟩; ((first | (go_at_call 32; first | exact quiet_call (sPlcOk_c _ _) | exact quiet_call2 (sPlcOk_c _ _)) | (go_at_call 33; first | exact quiet_same (l1In_c _ _ _ _) | exact quiet_same2 (l1In_c _ _ _ _)) | (go_at_call 34; first | exact quiet_call (sPlcSide_c _ _ _ _) | exact quiet_call2 (sPlcSide_c _ _ _ _)) | (go_at_call 36; first | exact quiet_call (sOrdOk_c _ _) | exact quiet_call2 (sOrdOk_c _ _)) | (go_at_call 35; first | exact quiet_call (bareTFF_c _ _ _ _ _ _ _ _ _) | exact quiet_call2 (bareTFF_c _ _ _ _ _ _ _ _ _)))); (try rw [h1]); (try rw [h2]); (try rw [h3]); (try rw [h4]); (try rw [p1]); (try rw [p2]); (try rw [p3]); (try rw [p4]); (try rw [r1]); (try rw [r2]); (try rw [r3]); (try rw [r4]); (try rw [r5]); (try rw [r6]); (try rw [q3]); (try rw [q4]); (try rw [hp]); (try rw [hq]); go_big_quiet_on)))
          refine wpQuiet_nil ?_
          rintro _ ⟨tq, rfl⟩))
    go_ret
    refine ⟨ret_bool ?_, (by ((try simp only [ext_drew]); (try simp only [ext_ext]); repeat (first | exact Ext.refl _ | with_reducible apply Ext.add | with_reducible apply Ext.dr | apply Ext.alloc | apply Ext.ext | apply Ext.drew | refine Ext.trans ?_ (by assumption))))⟩
    have hs0 : (side == 0) = false := by have := inB_not.1 r1; simp; omega
    simp [msgOk, msgKind, Bool.and_assoc, h1, h2, h3, r1, hs0]
  | true =>
    cases r2 : (to_ == -1) with
    | false =>
      have q9 : (to_ != -1) = true := by simp only [bne, r2, Bool.not_false]
      go_enter Try.func7, Try.ntmps7
      try go_wp2_with (first
          | (go_at_call 32; refine (sPlcOk_c _ _).mono ?_; rintro e w' ⟨rfl, t, rfl⟩) | (go_at_call 33; refine (l1In_c _ _ _ _).mono ?_; rintro e w' ⟨rfl, rfl⟩) | (go_at_call 34; refine (sPlcSide_c _ _ _ _).mono ?_; rintro e w' ⟨rfl, t, rfl⟩) | (go_at_call 36; refine (sOrdOk_c _ _).mono ?_; rintro e w' ⟨rfl, t, rfl⟩) | (go_at_call 35; refine (bareTFF_c _ _ _ _ _ _ _ _ _).mono ?_; rintro e w' ⟨rfl, t, rfl⟩) | ((with_reducible refine load_gateG (T1 := 44) ?_); refine wpList_loadG (by rfl) _ _ rfl (w.heap.size + 1) #[.int .i64 4, .int .i64 to_, .int .i64 cell, .int .i64 side, .int .i64 n, .int .i64 o.who, .int .i64 o.seq, .int .i64 o.kind, .int .i64 o.to_, .int .i64 o.n, .int .i64 p.n, .int .i64 p.kind, .int .i64 p.wk.id, .int .i64 p.wk.at_, .int .i64 p.wk.coins, .int .i64 p.wk.seq, .int .i64 p.wk.last, .int .i64 p.coins, .int .i64 g.src, .int .i64 g.count, .int .i64 g.wk.id, .int .i64 g.wk.at_, .int .i64 g.wk.coins, .int .i64 g.wk.seq, .int .i64 g.wk.last] 44 _ rfl (by (repeat (first | with_reducible refine blk_ext ?_ | with_reducible apply blk_drew)); exact alloc_last (by (try simp [go_sem]) <;> (try simp [Xt.add]) <;> omega)) Try.underlying44 rfl (by kernel_rfl) ?_)
          | (
            with_reducible refine wp_region_mix (by kernel_rfl) (by decide +kernel) ?_
            repeat (first
              | (refine mix_pure rfl ?_; (first | go_big_quiet_skip | (go_big_quiet_want; go_big_quiet_op; go_big_quiet_on)); refine wpQuiet_nil ?_)
              | (refine mix_skip (by rfl) ?_; (try simp only [Act.put, List.setIfInBounds_toArray, List.set_cons_zero, List.set_cons_succ]))
              | (refine mix_mk rfl (by rfl) (fun K hK => ?_); (first | (go_simp; first | (go_at_call 32; refine (sPlcOk_c _ _).mono ?_; rintro e w' ⟨rfl, t, rfl⟩) | (go_at_call 33; refine (l1In_c _ _ _ _).mono ?_; rintro e w' ⟨rfl, rfl⟩) | (go_at_call 34; refine (sPlcSide_c _ _ _ _).mono ?_; rintro e w' ⟨rfl, t, rfl⟩) | (go_at_call 36; refine (sOrdOk_c _ _).mono ?_; rintro e w' ⟨rfl, t, rfl⟩) | (go_at_call 35; refine (bareTFF_c _ _ _ _ _ _ _ _ _).mono ?_; rintro e w' ⟨rfl, t, rfl⟩) | ((with_reducible refine load_gateG (T1 := 44) ?_); refine wpList_loadG (by rfl) _ _ rfl (w.heap.size + 1) #[.int .i64 4, .int .i64 to_, .int .i64 cell, .int .i64 side, .int .i64 n, .int .i64 o.who, .int .i64 o.seq, .int .i64 o.kind, .int .i64 o.to_, .int .i64 o.n, .int .i64 p.n, .int .i64 p.kind, .int .i64 p.wk.id, .int .i64 p.wk.at_, .int .i64 p.wk.coins, .int .i64 p.wk.seq, .int .i64 p.wk.last, .int .i64 p.coins, .int .i64 g.src, .int .i64 g.count, .int .i64 g.wk.id, .int .i64 g.wk.at_, .int .i64 g.wk.coins, .int .i64 g.wk.seq, .int .i64 g.wk.last] 44 _ rfl (by (repeat (first | with_reducible refine blk_ext ?_ | with_reducible apply blk_drew)); exact alloc_last (by (try simp [go_sem]) <;> (try simp [Xt.add]) <;> omega)) Try.underlying44 rfl (by kernel_rfl) ?_) | skip)); (show K _ _); refine hK _ _ (show Ext _ _ from (by ((try simp only [ext_drew]); (try simp only [ext_ext]); repeat (first | exact Ext.refl _ | with_reducible apply Ext.add | with_reducible apply Ext.dr | apply Ext.alloc | apply Ext.ext | apply Ext.drew | refine Ext.trans ?_ (by assumption))))) ?_; clear hK K; (try simp only [Act.put, List.setIfInBounds_toArray, List.set_cons_zero, List.set_cons_succ])))
            refine mix_nil ?_)
          | (
            with_reducible refine wp_region_ext (by kernel_rfl) (by kernel_rfl) ?_
            repeat (first | go_big_quiet_skip | (go_big_quiet_want; go_big_quiet_op; first | go_big_quiet_on | (apply Exists.intro; refine ⟨fun _ => ?_, ?_⟩; ((first | (go_at_call 32; first | exact quiet_call (sPlcOk_c _ _) | exact quiet_call2 (sPlcOk_c _ _)) | (go_at_call 33; first | exact quiet_same (l1In_c _ _ _ _) | exact quiet_same2 (l1In_c _ _ _ _)) | (go_at_call 34; first | exact quiet_call (sPlcSide_c _ _ _ _) | exact quiet_call2 (sPlcSide_c _ _ _ _)) | (go_at_call 36; first | exact quiet_call (sOrdOk_c _ _) | exact quiet_call2 (sOrdOk_c _ _)) | (go_at_call 35; first | exact quiet_call (bareTFF_c _ _ _ _ _ _ _ _ _) | exact quiet_call2 (bareTFF_c _ _ _ _ _ _ _ _ _)))); (try rw [h1]); (try rw [h2]); (try rw [h3]); (try rw [h4]); (try rw [p1]); (try rw [p2]); (try rw [p3]); (try rw [p4]); (try rw [r1]); (try rw [r2]); (try rw [r3]); (try rw [r4]); (try rw [r5]); (try rw [r6]); (try rw [q3]); (try rw [q4]); (try rw [hp]); (try rw [hq]); go_big_quiet_on)))
            refine wpQuiet_nil ?_
            rintro _ ⟨tq, rfl⟩))
      go_ret
      refine ⟨ret_bool ?_, (by ((try simp only [ext_drew]); (try simp only [ext_ext]); repeat (first | exact Ext.refl _ | with_reducible apply Ext.add | with_reducible apply Ext.dr | apply Ext.alloc | apply Ext.ext | apply Ext.drew | refine Ext.trans ?_ (by assumption))))⟩
      simp [msgOk, msgKind, Bool.and_assoc, h1, h2, h3, r1, r2]
    | true =>
      have q9 : (to_ != -1) = false := by simp only [bne, r2, Bool.not_true]
      cases r3 : (side == 0) with
      | false =>
        go_enter Try.func7, Try.ntmps7
        try go_wp2_with (first
            | (go_at_call 32; refine (sPlcOk_c _ _).mono ?_; rintro e w' ⟨rfl, t, rfl⟩) | (go_at_call 33; refine (l1In_c _ _ _ _).mono ?_; rintro e w' ⟨rfl, rfl⟩) | (go_at_call 34; refine (sPlcSide_c _ _ _ _).mono ?_; rintro e w' ⟨rfl, t, rfl⟩) | (go_at_call 36; refine (sOrdOk_c _ _).mono ?_; rintro e w' ⟨rfl, t, rfl⟩) | (go_at_call 35; refine (bareTFF_c _ _ _ _ _ _ _ _ _).mono ?_; rintro e w' ⟨rfl, t, rfl⟩) | ((with_reducible refine load_gateG (T1 := 44) ?_); refine wpList_loadG (by rfl) _ _ rfl (w.heap.size + 1) #[.int .i64 4, .int .i64 to_, .int .i64 cell, .int .i64 side, .int .i64 n, .int .i64 o.who, .int .i64 o.seq, .int .i64 o.kind, .int .i64 o.to_, .int .i64 o.n, .int .i64 p.n, .int .i64 p.kind, .int .i64 p.wk.id, .int .i64 p.wk.at_, .int .i64 p.wk.coins, .int .i64 p.wk.seq, .int .i64 p.wk.last, .int .i64 p.coins, .int .i64 g.src, .int .i64 g.count, .int .i64 g.wk.id, .int .i64 g.wk.at_, .int .i64 g.wk.coins, .int .i64 g.wk.seq, .int .i64 g.wk.last] 44 _ rfl (by (repeat (first | with_reducible refine blk_ext ?_ | with_reducible apply blk_drew)); exact alloc_last (by (try simp [go_sem]) <;> (try simp [Xt.add]) <;> omega)) Try.underlying44 rfl (by kernel_rfl) ?_)
            | (
              with_reducible refine wp_region_mix (by kernel_rfl) (by decide +kernel) ?_
              repeat (first
                | (refine mix_pure rfl ?_; (first | go_big_quiet_skip | (go_big_quiet_want; go_big_quiet_op; go_big_quiet_on)); refine wpQuiet_nil ?_)
                | (refine mix_skip (by rfl) ?_; (try simp only [Act.put, List.setIfInBounds_toArray, List.set_cons_zero, List.set_cons_succ]))
                | (refine mix_mk rfl (by rfl) (fun K hK => ?_); (first | (go_simp; first | (go_at_call 32; refine (sPlcOk_c _ _).mono ?_; rintro e w' ⟨rfl, t, rfl⟩) | (go_at_call 33; refine (l1In_c _ _ _ _).mono ?_; rintro e w' ⟨rfl, rfl⟩) | (go_at_call 34; refine (sPlcSide_c _ _ _ _).mono ?_; rintro e w' ⟨rfl, t, rfl⟩) | (go_at_call 36; refine (sOrdOk_c _ _).mono ?_; rintro e w' ⟨rfl, t, rfl⟩) | (go_at_call 35; refine (bareTFF_c _ _ _ _ _ _ _ _ _).mono ?_; rintro e w' ⟨rfl, t, rfl⟩) | ((with_reducible refine load_gateG (T1 := 44) ?_); refine wpList_loadG (by rfl) _ _ rfl (w.heap.size + 1) #[.int .i64 4, .int .i64 to_, .int .i64 cell, .int .i64 side, .int .i64 n, .int .i64 o.who, .int .i64 o.seq, .int .i64 o.kind, .int .i64 o.to_, .int .i64 o.n, .int .i64 p.n, .int .i64 p.kind, .int .i64 p.wk.id, .int .i64 p.wk.at_, .int .i64 p.wk.coins, .int .i64 p.wk.seq, .int .i64 p.wk.last, .int .i64 p.coins, .int .i64 g.src, .int .i64 g.count, .int .i64 g.wk.id, .int .i64 g.wk.at_, .int .i64 g.wk.coins, .int .i64 g.wk.seq, .int .i64 g.wk.last] 44 _ rfl (by (repeat (first | with_reducible refine blk_ext ?_ | with_reducible apply blk_drew)); exact alloc_last (by (try simp [go_sem]) <;> (try simp [Xt.add]) <;> omega)) Try.underlying44 rfl (by kernel_rfl) ?_) | skip)); (show K _ _); refine hK _ _ (show Ext _ _ from (by ((try simp only [ext_drew]); (try simp only [ext_ext]); repeat (first | exact Ext.refl _ | with_reducible apply Ext.add | with_reducible apply Ext.dr | apply Ext.alloc | apply Ext.ext | apply Ext.drew | refine Ext.trans ?_ (by assumption))))) ?_; clear hK K; (try simp only [Act.put, List.setIfInBounds_toArray, List.set_cons_zero, List.set_cons_succ])))
              refine mix_nil ?_)
            | (
              with_reducible refine wp_region_ext (by kernel_rfl) (by kernel_rfl) ?_
              repeat (first | go_big_quiet_skip | (go_big_quiet_want; go_big_quiet_op; first | go_big_quiet_on | (apply Exists.intro; refine ⟨fun _ => ?_, ?_⟩; ((first | (go_at_call 32; first | exact quiet_call (sPlcOk_c _ _) | exact quiet_call2 (sPlcOk_c _ _)) | (go_at_call 33; first | exact quiet_same (l1In_c _ _ _ _) | exact quiet_same2 (l1In_c _ _ _ _)) | (go_at_call 34; first | exact quiet_call (sPlcSide_c _ _ _ _) | exact quiet_call2 (sPlcSide_c _ _ _ _)) | (go_at_call 36; first | exact quiet_call (sOrdOk_c _ _) | exact quiet_call2 (sOrdOk_c _ _)) | (go_at_call 35; first | exact quiet_call (bareTFF_c _ _ _ _ _ _ _ _ _) | exact quiet_call2 (bareTFF_c _ _ _ _ _ _ _ _ _)))); (try rw [h1]); (try rw [h2]); (try rw [h3]); (try rw [h4]); (try rw [p1]); (try rw [p2]); (try rw [p3]); (try rw [p4]); (try rw [r1]); (try rw [r2]); (try rw [r3]); (try rw [r4]); (try rw [r5]); (try rw [r6]); (try rw [q3]); (try rw [q4]); (try rw [hp]); (try rw [hq]); go_big_quiet_on)))
              refine wpQuiet_nil ?_
              rintro _ ⟨tq, rfl⟩))
        go_ret
        refine ⟨ret_bool ?_, (by ((try simp only [ext_drew]); (try simp only [ext_ext]); repeat (first | exact Ext.refl _ | with_reducible apply Ext.add | with_reducible apply Ext.dr | apply Ext.alloc | apply Ext.ext | apply Ext.drew | refine Ext.trans ?_ (by assumption))))⟩
        simp [msgOk, msgKind, Bool.and_assoc, h1, h2, h3, r1, r2, r3]
      | true =>
        cases r4 : (n == 0) with
        | false =>
          go_enter Try.func7, Try.ntmps7
          try go_wp2_with (first
              | (go_at_call 32; refine (sPlcOk_c _ _).mono ?_; rintro e w' ⟨rfl, t, rfl⟩) | (go_at_call 33; refine (l1In_c _ _ _ _).mono ?_; rintro e w' ⟨rfl, rfl⟩) | (go_at_call 34; refine (sPlcSide_c _ _ _ _).mono ?_; rintro e w' ⟨rfl, t, rfl⟩) | (go_at_call 36; refine (sOrdOk_c _ _).mono ?_; rintro e w' ⟨rfl, t, rfl⟩) | (go_at_call 35; refine (bareTFF_c _ _ _ _ _ _ _ _ _).mono ?_; rintro e w' ⟨rfl, t, rfl⟩) | ((with_reducible refine load_gateG (T1 := 44) ?_); refine wpList_loadG (by rfl) _ _ rfl (w.heap.size + 1) #[.int .i64 4, .int .i64 to_, .int .i64 cell, .int .i64 side, .int .i64 n, .int .i64 o.who, .int .i64 o.seq, .int .i64 o.kind, .int .i64 o.to_, .int .i64 o.n, .int .i64 p.n, .int .i64 p.kind, .int .i64 p.wk.id, .int .i64 p.wk.at_, .int .i64 p.wk.coins, .int .i64 p.wk.seq, .int .i64 p.wk.last, .int .i64 p.coins, .int .i64 g.src, .int .i64 g.count, .int .i64 g.wk.id, .int .i64 g.wk.at_, .int .i64 g.wk.coins, .int .i64 g.wk.seq, .int .i64 g.wk.last] 44 _ rfl (by (repeat (first | with_reducible refine blk_ext ?_ | with_reducible apply blk_drew)); exact alloc_last (by (try simp [go_sem]) <;> (try simp [Xt.add]) <;> omega)) Try.underlying44 rfl (by kernel_rfl) ?_)
              | (
                with_reducible refine wp_region_mix (by kernel_rfl) (by decide +kernel) ?_
                repeat (first
                  | (refine mix_pure rfl ?_; (first | go_big_quiet_skip | (go_big_quiet_want; go_big_quiet_op; go_big_quiet_on)); refine wpQuiet_nil ?_)
                  | (refine mix_skip (by rfl) ?_; (try simp only [Act.put, List.setIfInBounds_toArray, List.set_cons_zero, List.set_cons_succ]))
                  | (refine mix_mk rfl (by rfl) (fun K hK => ?_); (first | (go_simp; first | (go_at_call 32; refine (sPlcOk_c _ _).mono ?_; rintro e w' ⟨rfl, t, rfl⟩) | (go_at_call 33; refine (l1In_c _ _ _ _).mono ?_; rintro e w' ⟨rfl, rfl⟩) | (go_at_call 34; refine (sPlcSide_c _ _ _ _).mono ?_; rintro e w' ⟨rfl, t, rfl⟩) | (go_at_call 36; refine (sOrdOk_c _ _).mono ?_; rintro e w' ⟨rfl, t, rfl⟩) | (go_at_call 35; refine (bareTFF_c _ _ _ _ _ _ _ _ _).mono ?_; rintro e w' ⟨rfl, t, rfl⟩) | ((with_reducible refine load_gateG (T1 := 44) ?_); refine wpList_loadG (by rfl) _ _ rfl (w.heap.size + 1) #[.int .i64 4, .int .i64 to_, .int .i64 cell, .int .i64 side, .int .i64 n, .int .i64 o.who, .int .i64 o.seq, .int .i64 o.kind, .int .i64 o.to_, .int .i64 o.n, .int .i64 p.n, .int .i64 p.kind, .int .i64 p.wk.id, .int .i64 p.wk.at_, .int .i64 p.wk.coins, .int .i64 p.wk.seq, .int .i64 p.wk.last, .int .i64 p.coins, .int .i64 g.src, .int .i64 g.count, .int .i64 g.wk.id, .int .i64 g.wk.at_, .int .i64 g.wk.coins, .int .i64 g.wk.seq, .int .i64 g.wk.last] 44 _ rfl (by (repeat (first | with_reducible refine blk_ext ?_ | with_reducible apply blk_drew)); exact alloc_last (by (try simp [go_sem]) <;> (try simp [Xt.add]) <;> omega)) Try.underlying44 rfl (by kernel_rfl) ?_) | skip)); (show K _ _); refine hK _ _ (show Ext _ _ from (by ((try simp only [ext_drew]); (try simp only [ext_ext]); repeat (first | exact Ext.refl _ | with_reducible apply Ext.add | with_reducible apply Ext.dr | apply Ext.alloc | apply Ext.ext | apply Ext.drew | refine Ext.trans ?_ (by assumption))))) ?_; clear hK K; (try simp only [Act.put, List.setIfInBounds_toArray, List.set_cons_zero, List.set_cons_succ])))
                refine mix_nil ?_)
              | (
                with_reducible refine wp_region_ext (by kernel_rfl) (by kernel_rfl) ?_
                repeat (first | go_big_quiet_skip | (go_big_quiet_want; go_big_quiet_op; first | go_big_quiet_on | (apply Exists.intro; refine ⟨fun _ => ?_, ?_⟩; ((first | (go_at_call 32; first | exact quiet_call (sPlcOk_c _ _) | exact quiet_call2 (sPlcOk_c _ _)) | (go_at_call 33; first | exact quiet_same (l1In_c _ _ _ _) | exact quiet_same2 (l1In_c _ _ _ _)) | (go_at_call 34; first | exact quiet_call (sPlcSide_c _ _ _ _) | exact quiet_call2 (sPlcSide_c _ _ _ _)) | (go_at_call 36; first | exact quiet_call (sOrdOk_c _ _) | exact quiet_call2 (sOrdOk_c _ _)) | (go_at_call 35; first | exact quiet_call (bareTFF_c _ _ _ _ _ _ _ _ _) | exact quiet_call2 (bareTFF_c _ _ _ _ _ _ _ _ _)))); (try rw [h1]); (try rw [h2]); (try rw [h3]); (try rw [h4]); (try rw [p1]); (try rw [p2]); (try rw [p3]); (try rw [p4]); (try rw [r1]); (try rw [r2]); (try rw [r3]); (try rw [r4]); (try rw [r5]); (try rw [r6]); (try rw [q3]); (try rw [q4]); (try rw [hp]); (try rw [hq]); go_big_quiet_on)))
                refine wpQuiet_nil ?_
                rintro _ ⟨tq, rfl⟩))
          go_ret
          refine ⟨ret_bool ?_, (by ((try simp only [ext_drew]); (try simp only [ext_ext]); repeat (first | exact Ext.refl _ | with_reducible apply Ext.add | with_reducible apply Ext.dr | apply Ext.alloc | apply Ext.ext | apply Ext.drew | refine Ext.trans ?_ (by assumption))))⟩
          simp [msgOk, msgKind, Bool.and_assoc, h1, h2, h3, r1, r2, r3, r4]
        | true =>
          cases r5 : ordOk o with
          | false =>
            go_enter Try.func7, Try.ntmps7
            try go_wp2_with (first
                | (go_at_call 32; refine (sPlcOk_c _ _).mono ?_; rintro e w' ⟨rfl, t, rfl⟩) | (go_at_call 33; refine (l1In_c _ _ _ _).mono ?_; rintro e w' ⟨rfl, rfl⟩) | (go_at_call 34; refine (sPlcSide_c _ _ _ _).mono ?_; rintro e w' ⟨rfl, t, rfl⟩) | (go_at_call 36; refine (sOrdOk_c _ _).mono ?_; rintro e w' ⟨rfl, t, rfl⟩) | (go_at_call 35; refine (bareTFF_c _ _ _ _ _ _ _ _ _).mono ?_; rintro e w' ⟨rfl, t, rfl⟩) | ((with_reducible refine load_gateG (T1 := 44) ?_); refine wpList_loadG (by rfl) _ _ rfl (w.heap.size + 1) #[.int .i64 4, .int .i64 to_, .int .i64 cell, .int .i64 side, .int .i64 n, .int .i64 o.who, .int .i64 o.seq, .int .i64 o.kind, .int .i64 o.to_, .int .i64 o.n, .int .i64 p.n, .int .i64 p.kind, .int .i64 p.wk.id, .int .i64 p.wk.at_, .int .i64 p.wk.coins, .int .i64 p.wk.seq, .int .i64 p.wk.last, .int .i64 p.coins, .int .i64 g.src, .int .i64 g.count, .int .i64 g.wk.id, .int .i64 g.wk.at_, .int .i64 g.wk.coins, .int .i64 g.wk.seq, .int .i64 g.wk.last] 44 _ rfl (by (repeat (first | with_reducible refine blk_ext ?_ | with_reducible apply blk_drew)); exact alloc_last (by (try simp [go_sem]) <;> (try simp [Xt.add]) <;> omega)) Try.underlying44 rfl (by kernel_rfl) ?_)
                | (
                  with_reducible refine wp_region_mix (by kernel_rfl) (by decide +kernel) ?_
                  repeat (first
                    | (refine mix_pure rfl ?_; (first | go_big_quiet_skip | (go_big_quiet_want; go_big_quiet_op; go_big_quiet_on)); refine wpQuiet_nil ?_)
                    | (refine mix_skip (by rfl) ?_; (try simp only [Act.put, List.setIfInBounds_toArray, List.set_cons_zero, List.set_cons_succ]))
                    | (refine mix_mk rfl (by rfl) (fun K hK => ?_); (first | (go_simp; first | (go_at_call 32; refine (sPlcOk_c _ _).mono ?_; rintro e w' ⟨rfl, t, rfl⟩) | (go_at_call 33; refine (l1In_c _ _ _ _).mono ?_; rintro e w' ⟨rfl, rfl⟩) | (go_at_call 34; refine (sPlcSide_c _ _ _ _).mono ?_; rintro e w' ⟨rfl, t, rfl⟩) | (go_at_call 36; refine (sOrdOk_c _ _).mono ?_; rintro e w' ⟨rfl, t, rfl⟩) | (go_at_call 35; refine (bareTFF_c _ _ _ _ _ _ _ _ _).mono ?_; rintro e w' ⟨rfl, t, rfl⟩) | ((with_reducible refine load_gateG (T1 := 44) ?_); refine wpList_loadG (by rfl) _ _ rfl (w.heap.size + 1) #[.int .i64 4, .int .i64 to_, .int .i64 cell, .int .i64 side, .int .i64 n, .int .i64 o.who, .int .i64 o.seq, .int .i64 o.kind, .int .i64 o.to_, .int .i64 o.n, .int .i64 p.n, .int .i64 p.kind, .int .i64 p.wk.id, .int .i64 p.wk.at_, .int .i64 p.wk.coins, .int .i64 p.wk.seq, .int .i64 p.wk.last, .int .i64 p.coins, .int .i64 g.src, .int .i64 g.count, .int .i64 g.wk.id, .int .i64 g.wk.at_, .int .i64 g.wk.coins, .int .i64 g.wk.seq, .int .i64 g.wk.last] 44 _ rfl (by (repeat (first | with_reducible refine blk_ext ?_ | with_reducible apply blk_drew)); exact alloc_last (by (try simp [go_sem]) <;> (try simp [Xt.add]) <;> omega)) Try.underlying44 rfl (by kernel_rfl) ?_) | skip)); (show K _ _); refine hK _ _ (show Ext _ _ from (by ((try simp only [ext_drew]); (try simp only [ext_ext]); repeat (first | exact Ext.refl _ | with_reducible apply Ext.add | with_reducible apply Ext.dr | apply Ext.alloc | apply Ext.ext | apply Ext.drew | refine Ext.trans ?_ (by assumption))))) ?_; clear hK K; (try simp only [Act.put, List.setIfInBounds_toArray, List.set_cons_zero, List.set_cons_succ])))
                  refine mix_nil ?_)
                | (
                  with_reducible refine wp_region_ext (by kernel_rfl) (by kernel_rfl) ?_
                  repeat (first | go_big_quiet_skip | (go_big_quiet_want; go_big_quiet_op; first | go_big_quiet_on | (apply Exists.intro; refine ⟨fun _ => ?_, ?_⟩; ((first | (go_at_call 32; first | exact quiet_call (sPlcOk_c _ _) | exact quiet_call2 (sPlcOk_c _ _)) | (go_at_call 33; first | exact quiet_same (l1In_c _ _ _ _) | exact quiet_same2 (l1In_c _ _ _ _)) | (go_at_call 34; first | exact quiet_call (sPlcSide_c _ _ _ _) | exact quiet_call2 (sPlcSide_c _ _ _ _)) | (go_at_call 36; first | exact quiet_call (sOrdOk_c _ _) | exact quiet_call2 (sOrdOk_c _ _)) | (go_at_call 35; first | exact quiet_call (bareTFF_c _ _ _ _ _ _ _ _ _) | exact quiet_call2 (bareTFF_c _ _ _ _ _ _ _ _ _)))); (try rw [h1]); (try rw [h2]); (try rw [h3]); (try rw [h4]); (try rw [p1]); (try rw [p2]); (try rw [p3]); (try rw [p4]); (try rw [r1]); (try rw [r2]); (try rw [r3]); (try rw [r4]); (try rw [r5]); (try rw [r6]); (try rw [q3]); (try rw [q4]); (try rw [hp]); (try rw [hq]); go_big_quiet_on)))
                  refine wpQuiet_nil ?_
                  rintro _ ⟨tq, rfl⟩))
            go_ret
            refine ⟨ret_bool ?_, (by ((try simp only [ext_drew]); (try simp only [ext_ext]); repeat (first | exact Ext.refl _ | with_reducible apply Ext.add | with_reducible apply Ext.dr | apply Ext.alloc | apply Ext.ext | apply Ext.drew | refine Ext.trans ?_ (by assumption))))⟩
            simp [msgOk, msgKind, Bool.and_assoc, h1, h2, h3, r1, r2, r3, r4, r5]
          | true =>
            go_enter Try.func7, Try.ntmps7
            try go_wp2_with (first
                | (go_at_call 32; refine (sPlcOk_c _ _).mono ?_; rintro e w' ⟨rfl, t, rfl⟩) | (go_at_call 33; refine (l1In_c _ _ _ _).mono ?_; rintro e w' ⟨rfl, rfl⟩) | (go_at_call 34; refine (sPlcSide_c _ _ _ _).mono ?_; rintro e w' ⟨rfl, t, rfl⟩) | (go_at_call 36; refine (sOrdOk_c _ _).mono ?_; rintro e w' ⟨rfl, t, rfl⟩) | (go_at_call 35; refine (bareTFF_c _ _ _ _ _ _ _ _ _).mono ?_; rintro e w' ⟨rfl, t, rfl⟩) | ((with_reducible refine load_gateG (T1 := 44) ?_); refine wpList_loadG (by rfl) _ _ rfl (w.heap.size + 1) #[.int .i64 4, .int .i64 to_, .int .i64 cell, .int .i64 side, .int .i64 n, .int .i64 o.who, .int .i64 o.seq, .int .i64 o.kind, .int .i64 o.to_, .int .i64 o.n, .int .i64 p.n, .int .i64 p.kind, .int .i64 p.wk.id, .int .i64 p.wk.at_, .int .i64 p.wk.coins, .int .i64 p.wk.seq, .int .i64 p.wk.last, .int .i64 p.coins, .int .i64 g.src, .int .i64 g.count, .int .i64 g.wk.id, .int .i64 g.wk.at_, .int .i64 g.wk.coins, .int .i64 g.wk.seq, .int .i64 g.wk.last] 44 _ rfl (by (repeat (first | with_reducible refine blk_ext ?_ | with_reducible apply blk_drew)); exact alloc_last (by (try simp [go_sem]) <;> (try simp [Xt.add]) <;> omega)) Try.underlying44 rfl (by kernel_rfl) ?_)
                | (
                  with_reducible refine wp_region_mix (by kernel_rfl) (by decide +kernel) ?_
                  repeat (first
                    | (refine mix_pure rfl ?_; (first | go_big_quiet_skip | (go_big_quiet_want; go_big_quiet_op; go_big_quiet_on)); refine wpQuiet_nil ?_)
                    | (refine mix_skip (by rfl) ?_; (try simp only [Act.put, List.setIfInBounds_toArray, List.set_cons_zero, List.set_cons_succ]))
                    | (refine mix_mk rfl (by rfl) (fun K hK => ?_); (first | (go_simp; first | (go_at_call 32; refine (sPlcOk_c _ _).mono ?_; rintro e w' ⟨rfl, t, rfl⟩) | (go_at_call 33; refine (l1In_c _ _ _ _).mono ?_; rintro e w' ⟨rfl, rfl⟩) | (go_at_call 34; refine (sPlcSide_c _ _ _ _).mono ?_; rintro e w' ⟨rfl, t, rfl⟩) | (go_at_call 36; refine (sOrdOk_c _ _).mono ?_; rintro e w' ⟨rfl, t, rfl⟩) | (go_at_call 35; refine (bareTFF_c _ _ _ _ _ _ _ _ _).mono ?_; rintro e w' ⟨rfl, t, rfl⟩) | ((with_reducible refine load_gateG (T1 := 44) ?_); refine wpList_loadG (by rfl) _ _ rfl (w.heap.size + 1) #[.int .i64 4, .int .i64 to_, .int .i64 cell, .int .i64 side, .int .i64 n, .int .i64 o.who, .int .i64 o.seq, .int .i64 o.kind, .int .i64 o.to_, .int .i64 o.n, .int .i64 p.n, .int .i64 p.kind, .int .i64 p.wk.id, .int .i64 p.wk.at_, .int .i64 p.wk.coins, .int .i64 p.wk.seq, .int .i64 p.wk.last, .int .i64 p.coins, .int .i64 g.src, .int .i64 g.count, .int .i64 g.wk.id, .int .i64 g.wk.at_, .int .i64 g.wk.coins, .int .i64 g.wk.seq, .int .i64 g.wk.last] 44 _ rfl (by (repeat (first | with_reducible refine blk_ext ?_ | with_reducible apply blk_drew)); exact alloc_last (by (try simp [go_sem]) <;> (try simp [Xt.add]) <;> omega)) Try.underlying44 rfl (by kernel_rfl) ?_) | skip)); (show K _ _); refine hK _ _ (show Ext _ _ from (by ((try simp only [ext_drew]); (try simp only [ext_ext]); repeat (first | exact Ext.refl _ | with_reducible apply Ext.add | with_reducible apply Ext.dr | apply Ext.alloc | apply Ext.ext | apply Ext.drew | refine Ext.trans ?_ (by assumption))))) ?_; clear hK K; (try simp only [Act.put, List.setIfInBounds_toArray, List.set_cons_zero, List.set_cons_succ])))
                  refine mix_nil ?_)
                | (
                  with_reducible refine wp_region_ext (by kernel_rfl) (by kernel_rfl) ?_
                  repeat (first | go_big_quiet_skip | (go_big_quiet_want; go_big_quiet_op; first | go_big_quiet_on | (apply Exists.intro; refine ⟨fun _ => ?_, ?_⟩; ((first | (go_at_call 32; first | exact quiet_call (sPlcOk_c _ _) | exact quiet_call2 (sPlcOk_c _ _)) | (go_at_call 33; first | exact quiet_same (l1In_c _ _ _ _) | exact quiet_same2 (l1In_c _ _ _ _)) | (go_at_call 34; first | exact quiet_call (sPlcSide_c _ _ _ _) | exact quiet_call2 (sPlcSide_c _ _ _ _)) | (go_at_call 36; first | exact quiet_call (sOrdOk_c _ _) | exact quiet_call2 (sOrdOk_c _ _)) | (go_at_call 35; first | exact quiet_call (bareTFF_c _ _ _ _ _ _ _ _ _) | exact quiet_call2 (bareTFF_c _ _ _ _ _ _ _ _ _)))); (try rw [h1]); (try rw [h2]); (try rw [h3]); (try rw [h4]); (try rw [p1]); (try rw [p2]); (try rw [p3]); (try rw [p4]); (try rw [r1]); (try rw [r2]); (try rw [r3]); (try rw [r4]); (try rw [r5]); (try rw [r6]); (try rw [q3]); (try rw [q4]); (try rw [hp]); (try rw [hq]); go_big_quiet_on)))
                  refine wpQuiet_nil ?_
                  rintro _ ⟨tq, rfl⟩))
            go_ret
            refine ⟨ret_bool ?_, (by ((try simp only [ext_drew]); (try simp only [ext_ext]); repeat (first | exact Ext.refl _ | with_reducible apply Ext.add | with_reducible apply Ext.dr | apply Ext.alloc | apply Ext.ext | apply Ext.drew | refine Ext.trans ?_ (by assumption))))⟩
            simp [msgOk, msgKind, Bool.and_assoc, h1, h2, h3, r1, r2, r3, r4, r5]
end Go.Proofs.Ytnfodkhfoegnaaa

namespace Go.Proofs.Ytnfodkhfoegnaaa
open Go.RowKit
set_option linter.unusedSimpArgs false
set_option linter.unusedVariables false

set_option maxRecDepth 100000 in
set_option maxHeartbeats 4000000 in
theorem sMsgOk_k5 (m : Mp) (s to_ cell side n : Int) (o : Ord) (p : Pcl) (g : Gst) (w : World) (h1 : plcOk m = true) (h2 : inB s 1 3 = true) (h3 : inB cell 0 (m.c - 1) = true) (s1 : 1 ≤ s) (s2 : s ≤ 3) (m1 : 2 ≤ m.c) (m2 : m.c ≤ 4) :
    Calls Try.prog 7 #[.agg #[.int .i64 m.c, .int .i64 m.w], .int .i64 s, .agg #[.int .i64 5, .int .i64 to_, .int .i64 cell, .int .i64 side, .int .i64 n, .int .i64 o.who, .int .i64 o.seq, .int .i64 o.kind, .int .i64 o.to_, .int .i64 o.n, .int .i64 p.n, .int .i64 p.kind, .int .i64 p.wk.id, .int .i64 p.wk.at_, .int .i64 p.wk.coins, .int .i64 p.wk.seq, .int .i64 p.wk.last, .int .i64 p.coins, .int .i64 g.src, .int .i64 g.count, .int .i64 g.wk.id, .int .i64 g.wk.at_, .int .i64 g.wk.coins, .int .i64 g.wk.seq, .int .i64 g.wk.last]] w fun e w' => e = .returned (.bool (msgOk m s ⟨5, to_, cell, side, n, o, p, g⟩)) ∧ Ext w w' := by
  cases r1 : inB side 0 1 with
  | false =>
    go_enter Try.func7, Try.ntmps7
    try go_wp2_with (first
        | (go_at_call 32; refine (sPlcOk_c _ _).mono ?_; rintro e w' ⟨rfl, t, rfl⟩) | (go_at_call 33; refine (l1In_c _ _ _ _).mono ?_; rintro e w' ⟨rfl, rfl⟩) | (go_at_call 34; refine (sPlcSide_c _ _ _ _).mono ?_; rintro e w' ⟨rfl, t, rfl⟩) | (go_at_call 37; refine (sPclOk_c _ _ _).mono ?_; rintro e w' ⟨rfl, t, rfl⟩) | (go_at_call 35; refine (bareFTF_c _ _ _ _ _ _ _ _ _).mono ?_; rintro e w' ⟨rfl, t, rfl⟩) | ((with_reducible refine load_gateG (T1 := 44) ?_); refine wpList_loadG (by rfl) _ _ rfl (w.heap.size + 1) #[.int .i64 5, .int .i64 to_, .int .i64 cell, .int .i64 side, .int .i64 n, .int .i64 o.who, .int .i64 o.seq, .int .i64 o.kind, .int .i64 o.to_, .int .i64 o.n, .int .i64 p.n, .int .i64 p.kind, .int .i64 p.wk.id, .int .i64 p.wk.at_, .int .i64 p.wk.coins, .int .i64 p.wk.seq, .int .i64 p.wk.last, .int .i64 p.coins, .int .i64 g.src, .int .i64 g.count, .int .i64 g.wk.id, .int .i64 g.wk.at_, .int .i64 g.wk.coins, .int .i64 g.wk.seq, .int .i64 g.wk.last] 44 _ rfl (by (repeat (first | with_reducible refine blk_ext ?_ | with_reducible apply blk_drew)); exact alloc_last (by (try simp [go_sem]) <;> (try simp [Xt.add]) <;> omega)) Try.underlying44 rfl (by kernel_rfl) ?_)
        | (
          with_reducible refine wp_region_mix (by kernel_rfl) (by decide +kernel) ?_
          repeat (first
            | (refine mix_pure rfl ?_; (first | go_big_quiet_skip | (go_big_quiet_want; go_big_quiet_op; go_big_quiet_on)); refine wpQuiet_nil ?_)
            | (refine mix_skip (by rfl) ?_; (try simp only [Act.put, List.setIfInBounds_toArray, List.set_cons_zero, List.set_cons_succ]))
            | (refine mix_mk rfl (by rfl) (fun K hK => ?_); (first | (go_simp; first | (go_at_call 32; refine (sPlcOk_c _ _).mono ?_; rintro e w' ⟨rfl, t, rfl⟩) | (go_at_call 33; refine (l1In_c _ _ _ _).mono ?_; rintro e w' ⟨rfl, rfl⟩) | (go_at_call 34; refine (sPlcSide_c _ _ _ _).mono ?_; rintro e w' ⟨rfl, t, rfl⟩) | (go_at_call 37; refine (sPclOk_c _ _ _).mono ?_; rintro e w' ⟨rfl, t, rfl⟩) | (go_at_call 35; refine (bareFTF_c _ _ _ _ _ _ _ _ _).mono ?_; rintro e w' ⟨rfl, t, rfl⟩) | ((with_reducible refine load_gateG (T1 := 44) ?_); refine wpList_loadG (by rfl) _ _ rfl (w.heap.size + 1) #[.int .i64 5, .int .i64 to_, .int .i64 cell, .int .i64 side, .int .i64 n, .int .i64 o.who, .int .i64 o.seq, .int .i64 o.kind, .int .i64 o.to_, .int .i64 o.n, .int .i64 p.n, .int .i64 p.kind, .int .i64 p.wk.id, .int .i64 p.wk.at_, .int .i64 p.wk.coins, .int .i64 p.wk.seq, .int .i64 p.wk.last, .int .i64 p.coins, .int .i64 g.src, .int .i64 g.count, .int .i64 g.wk.id, .int .i64 g.wk.at_, .int .i64 g.wk.coins, .int .i64 g.wk.seq, .int .i64 g.wk.last] 44 _ rfl (by (repeat (first | with_reducible refine blk_ext ?_ | with_reducible apply blk_drew)); exact alloc_last (by (try simp [go_sem]) <;> (try simp [Xt.add]) <;> omega)) Try.underlying44 rfl (by kernel_rfl) ?_) | skip)); (show K _ _); refine hK _ _ (show Ext _ _ from (by ((try simp only [ext_drew]); (try simp only [ext_ext]); repeat (first | exact Ext.refl _ | with_reducible apply Ext.add | with_reducible apply Ext.dr | apply Ext.alloc | apply Ext.ext | apply Ext.drew | refine Ext.trans ?_ (by assumption))))) ?_; clear hK K; (try simp only [Act.put, List.setIfInBounds_toArray, List.set_cons_zero, List.set_cons_succ])))
          refine mix_nil ?_)
        | (
          with_reducible refine wp_region_ext (by kernel_rfl) (by kernel_rfl) ?_
          repeat (first | go_big_quiet_skip | (go_big_quiet_want; go_big_quiet_op; first | go_big_quiet_on | (apply Exists.intro; refine ⟨fun _ => ?_, ?_⟩; ((first | (go_at_call 32; first | exact quiet_call (sPlcOk_c _ _) | exact quiet_call2 (sPlcOk_c _ _)) | (go_at_call 33; first | exact quiet_same (l1In_c _ _ _ _) | exact quiet_same2 (l1In_c _ _ _ _)) | (go_at_call 34; first | exact quiet_call (sPlcSide_c _ _ _ _) | exact quiet_call2 (sPlcSide_c _ _ _ _)) | (go_at_call 37; first | exact quiet_call (sPclOk_c _ _ _) | exact quiet_call2 (sPclOk_c _ _ _)) | (go_at_call 35; first | exact quiet_call (bareFTF_c _ _ _ _ _ _ _ _ _) | exact quiet_call2 (bareFTF_c _ _ _ _ _ _ _ _ _)))); (try rw [h1]); (try rw [h2]); (try rw [h3]); (try rw [h4]); (try rw [p1]); (try rw [p2]); (try rw [p3]); (try rw [p4]); (try rw [r1]); (try rw [r2]); (try rw [r3]); (try rw [r4]); (try rw [r5]); (try rw [r6]); (try rw [q3]); (try rw [q4]); (try rw [hp]); (try rw [hq]); go_big_quiet_on)))
          refine wpQuiet_nil ?_
          rintro _ ⟨tq, rfl⟩))
    go_ret
    refine ⟨ret_bool ?_, (by ((try simp only [ext_drew]); (try simp only [ext_ext]); repeat (first | exact Ext.refl _ | with_reducible apply Ext.add | with_reducible apply Ext.dr | apply Ext.alloc | apply Ext.ext | apply Ext.drew | refine Ext.trans ?_ (by assumption))))⟩
    have hs0 : plcSide m cell side = -1 := plcSide_no cell r1
    simp [msgOk, msgKind, Bool.and_assoc, h1, h2, h3, r1, hs0]
  | true =>
    cases r2 : inB to_ 0 (s - 1) with
    | false =>
      go_enter Try.func7, Try.ntmps7
      try go_wp2_with (first
          | (go_at_call 32; refine (sPlcOk_c _ _).mono ?_; rintro e w' ⟨rfl, t, rfl⟩) | (go_at_call 33; refine (l1In_c _ _ _ _).mono ?_; rintro e w' ⟨rfl, rfl⟩) | (go_at_call 34; refine (sPlcSide_c _ _ _ _).mono ?_; rintro e w' ⟨rfl, t, rfl⟩) | (go_at_call 37; refine (sPclOk_c _ _ _).mono ?_; rintro e w' ⟨rfl, t, rfl⟩) | (go_at_call 35; refine (bareFTF_c _ _ _ _ _ _ _ _ _).mono ?_; rintro e w' ⟨rfl, t, rfl⟩) | ((with_reducible refine load_gateG (T1 := 44) ?_); refine wpList_loadG (by rfl) _ _ rfl (w.heap.size + 1) #[.int .i64 5, .int .i64 to_, .int .i64 cell, .int .i64 side, .int .i64 n, .int .i64 o.who, .int .i64 o.seq, .int .i64 o.kind, .int .i64 o.to_, .int .i64 o.n, .int .i64 p.n, .int .i64 p.kind, .int .i64 p.wk.id, .int .i64 p.wk.at_, .int .i64 p.wk.coins, .int .i64 p.wk.seq, .int .i64 p.wk.last, .int .i64 p.coins, .int .i64 g.src, .int .i64 g.count, .int .i64 g.wk.id, .int .i64 g.wk.at_, .int .i64 g.wk.coins, .int .i64 g.wk.seq, .int .i64 g.wk.last] 44 _ rfl (by (repeat (first | with_reducible refine blk_ext ?_ | with_reducible apply blk_drew)); exact alloc_last (by (try simp [go_sem]) <;> (try simp [Xt.add]) <;> omega)) Try.underlying44 rfl (by kernel_rfl) ?_)
          | (
            with_reducible refine wp_region_mix (by kernel_rfl) (by decide +kernel) ?_
            repeat (first
              | (refine mix_pure rfl ?_; (first | go_big_quiet_skip | (go_big_quiet_want; go_big_quiet_op; go_big_quiet_on)); refine wpQuiet_nil ?_)
              | (refine mix_skip (by rfl) ?_; (try simp only [Act.put, List.setIfInBounds_toArray, List.set_cons_zero, List.set_cons_succ]))
              | (refine mix_mk rfl (by rfl) (fun K hK => ?_); (first | (go_simp; first | (go_at_call 32; refine (sPlcOk_c _ _).mono ?_; rintro e w' ⟨rfl, t, rfl⟩) | (go_at_call 33; refine (l1In_c _ _ _ _).mono ?_; rintro e w' ⟨rfl, rfl⟩) | (go_at_call 34; refine (sPlcSide_c _ _ _ _).mono ?_; rintro e w' ⟨rfl, t, rfl⟩) | (go_at_call 37; refine (sPclOk_c _ _ _).mono ?_; rintro e w' ⟨rfl, t, rfl⟩) | (go_at_call 35; refine (bareFTF_c _ _ _ _ _ _ _ _ _).mono ?_; rintro e w' ⟨rfl, t, rfl⟩) | ((with_reducible refine load_gateG (T1 := 44) ?_); refine wpList_loadG (by rfl) _ _ rfl (w.heap.size + 1) #[.int .i64 5, .int .i64 to_, .int .i64 cell, .int .i64 side, .int .i64 n, .int .i64 o.who, .int .i64 o.seq, .int .i64 o.kind, .int .i64 o.to_, .int .i64 o.n, .int .i64 p.n, .int .i64 p.kind, .int .i64 p.wk.id, .int .i64 p.wk.at_, .int .i64 p.wk.coins, .int .i64 p.wk.seq, .int .i64 p.wk.last, .int .i64 p.coins, .int .i64 g.src, .int .i64 g.count, .int .i64 g.wk.id, .int .i64 g.wk.at_, .int .i64 g.wk.coins, .int .i64 g.wk.seq, .int .i64 g.wk.last] 44 _ rfl (by (repeat (first | with_reducible refine blk_ext ?_ | with_reducible apply blk_drew)); exact alloc_last (by (try simp [go_sem]) <;> (try simp [Xt.add]) <;> omega)) Try.underlying44 rfl (by kernel_rfl) ?_) | skip)); (show K _ _); refine hK _ _ (show Ext _ _ from (by ((try simp only [ext_drew]); (try simp only [ext_ext]); repeat (first | exact Ext.refl _ | with_reducible apply Ext.add | with_reducible apply Ext.dr | apply Ext.alloc | apply Ext.ext | apply Ext.drew | refine Ext.trans ?_ (by assumption))))) ?_; clear hK K; (try simp only [Act.put, List.setIfInBounds_toArray, List.set_cons_zero, List.set_cons_succ])))
            refine mix_nil ?_)
          | (
            with_reducible refine wp_region_ext (by kernel_rfl) (by kernel_rfl) ?_
            repeat (first | go_big_quiet_skip | (go_big_quiet_want; go_big_quiet_op; first | go_big_quiet_on | (apply Exists.intro; refine ⟨fun _ => ?_, ?_⟩; ((first | (go_at_call 32; first | exact quiet_call (sPlcOk_c _ _) | exact quiet_call2 (sPlcOk_c _ _)) | (go_at_call 33; first | exact quiet_same (l1In_c _ _ _ _) | exact quiet_same2 (l1In_c _ _ _ _)) | (go_at_call 34; first | exact quiet_call (sPlcSide_c _ _ _ _) | exact quiet_call2 (sPlcSide_c _ _ _ _)) | (go_at_call 37; first | exact quiet_call (sPclOk_c _ _ _) | exact quiet_call2 (sPclOk_c _ _ _)) | (go_at_call 35; first | exact quiet_call (bareFTF_c _ _ _ _ _ _ _ _ _) | exact quiet_call2 (bareFTF_c _ _ _ _ _ _ _ _ _)))); (try rw [h1]); (try rw [h2]); (try rw [h3]); (try rw [h4]); (try rw [p1]); (try rw [p2]); (try rw [p3]); (try rw [p4]); (try rw [r1]); (try rw [r2]); (try rw [r3]); (try rw [r4]); (try rw [r5]); (try rw [r6]); (try rw [q3]); (try rw [q4]); (try rw [hp]); (try rw [hq]); go_big_quiet_on)))
            refine wpQuiet_nil ?_
            rintro _ ⟨tq, rfl⟩))
      go_ret
      refine ⟨ret_bool ?_, (by ((try simp only [ext_drew]); (try simp only [ext_ext]); repeat (first | exact Ext.refl _ | with_reducible apply Ext.add | with_reducible apply Ext.dr | apply Ext.alloc | apply Ext.ext | apply Ext.drew | refine Ext.trans ?_ (by assumption))))⟩
      simp [msgOk, msgKind, Bool.and_assoc, h1, h2, h3, r1, r2]
    | true =>
      cases r3 : (plcSide m cell side != -1) with
      | false =>
        go_enter Try.func7, Try.ntmps7
        try go_wp2_with (first
            | (go_at_call 32; refine (sPlcOk_c _ _).mono ?_; rintro e w' ⟨rfl, t, rfl⟩) | (go_at_call 33; refine (l1In_c _ _ _ _).mono ?_; rintro e w' ⟨rfl, rfl⟩) | (go_at_call 34; refine (sPlcSide_c _ _ _ _).mono ?_; rintro e w' ⟨rfl, t, rfl⟩) | (go_at_call 37; refine (sPclOk_c _ _ _).mono ?_; rintro e w' ⟨rfl, t, rfl⟩) | (go_at_call 35; refine (bareFTF_c _ _ _ _ _ _ _ _ _).mono ?_; rintro e w' ⟨rfl, t, rfl⟩) | ((with_reducible refine load_gateG (T1 := 44) ?_); refine wpList_loadG (by rfl) _ _ rfl (w.heap.size + 1) #[.int .i64 5, .int .i64 to_, .int .i64 cell, .int .i64 side, .int .i64 n, .int .i64 o.who, .int .i64 o.seq, .int .i64 o.kind, .int .i64 o.to_, .int .i64 o.n, .int .i64 p.n, .int .i64 p.kind, .int .i64 p.wk.id, .int .i64 p.wk.at_, .int .i64 p.wk.coins, .int .i64 p.wk.seq, .int .i64 p.wk.last, .int .i64 p.coins, .int .i64 g.src, .int .i64 g.count, .int .i64 g.wk.id, .int .i64 g.wk.at_, .int .i64 g.wk.coins, .int .i64 g.wk.seq, .int .i64 g.wk.last] 44 _ rfl (by (repeat (first | with_reducible refine blk_ext ?_ | with_reducible apply blk_drew)); exact alloc_last (by (try simp [go_sem]) <;> (try simp [Xt.add]) <;> omega)) Try.underlying44 rfl (by kernel_rfl) ?_)
            | (
              with_reducible refine wp_region_mix (by kernel_rfl) (by decide +kernel) ?_
              repeat (first
                | (refine mix_pure rfl ?_; (first | go_big_quiet_skip | (go_big_quiet_want; go_big_quiet_op; go_big_quiet_on)); refine wpQuiet_nil ?_)
                | (refine mix_skip (by rfl) ?_; (try simp only [Act.put, List.setIfInBounds_toArray, List.set_cons_zero, List.set_cons_succ]))
                | (refine mix_mk rfl (by rfl) (fun K hK => ?_); (first | (go_simp; first | (go_at_call 32; refine (sPlcOk_c _ _).mono ?_; rintro e w' ⟨rfl, t, rfl⟩) | (go_at_call 33; refine (l1In_c _ _ _ _).mono ?_; rintro e w' ⟨rfl, rfl⟩) | (go_at_call 34; refine (sPlcSide_c _ _ _ _).mono ?_; rintro e w' ⟨rfl, t, rfl⟩) | (go_at_call 37; refine (sPclOk_c _ _ _).mono ?_; rintro e w' ⟨rfl, t, rfl⟩) | (go_at_call 35; refine (bareFTF_c _ _ _ _ _ _ _ _ _).mono ?_; rintro e w' ⟨rfl, t, rfl⟩) | ((with_reducible refine load_gateG (T1 := 44) ?_); refine wpList_loadG (by rfl) _ _ rfl (w.heap.size + 1) #[.int .i64 5, .int .i64 to_, .int .i64 cell, .int .i64 side, .int .i64 n, .int .i64 o.who, .int .i64 o.seq, .int .i64 o.kind, .int .i64 o.to_, .int .i64 o.n, .int .i64 p.n, .int .i64 p.kind, .int .i64 p.wk.id, .int .i64 p.wk.at_, .int .i64 p.wk.coins, .int .i64 p.wk.seq, .int .i64 p.wk.last, .int .i64 p.coins, .int .i64 g.src, .int .i64 g.count, .int .i64 g.wk.id, .int .i64 g.wk.at_, .int .i64 g.wk.coins, .int .i64 g.wk.seq, .int .i64 g.wk.last] 44 _ rfl (by (repeat (first | with_reducible refine blk_ext ?_ | with_reducible apply blk_drew)); exact alloc_last (by (try simp [go_sem]) <;> (try simp [Xt.add]) <;> omega)) Try.underlying44 rfl (by kernel_rfl) ?_) | skip)); (show K _ _); refine hK _ _ (show Ext _ _ from (by ((try simp only [ext_drew]); (try simp only [ext_ext]); repeat (first | exact Ext.refl _ | with_reducible apply Ext.add | with_reducible apply Ext.dr | apply Ext.alloc | apply Ext.ext | apply Ext.drew | refine Ext.trans ?_ (by assumption))))) ?_; clear hK K; (try simp only [Act.put, List.setIfInBounds_toArray, List.set_cons_zero, List.set_cons_succ])))
              refine mix_nil ?_)
            | (
              with_reducible refine wp_region_ext (by kernel_rfl) (by kernel_rfl) ?_
              repeat (first | go_big_quiet_skip | (go_big_quiet_want; go_big_quiet_op; first | go_big_quiet_on | (apply Exists.intro; refine ⟨fun _ => ?_, ?_⟩; ((first | (go_at_call 32; first | exact quiet_call (sPlcOk_c _ _) | exact quiet_call2 (sPlcOk_c _ _)) | (go_at_call 33; first | exact quiet_same (l1In_c _ _ _ _) | exact quiet_same2 (l1In_c _ _ _ _)) | (go_at_call 34; first | exact quiet_call (sPlcSide_c _ _ _ _) | exact quiet_call2 (sPlcSide_c _ _ _ _)) | (go_at_call 37; first | exact quiet_call (sPclOk_c _ _ _) | exact quiet_call2 (sPclOk_c _ _ _)) | (go_at_call 35; first | exact quiet_call (bareFTF_c _ _ _ _ _ _ _ _ _) | exact quiet_call2 (bareFTF_c _ _ _ _ _ _ _ _ _)))); (try rw [h1]); (try rw [h2]); (try rw [h3]); (try rw [h4]); (try rw [p1]); (try rw [p2]); (try rw [p3]); (try rw [p4]); (try rw [r1]); (try rw [r2]); (try rw [r3]); (try rw [r4]); (try rw [r5]); (try rw [r6]); (try rw [q3]); (try rw [q4]); (try rw [hp]); (try rw [hq]); go_big_quiet_on)))
              refine wpQuiet_nil ?_
              rintro _ ⟨tq, rfl⟩))
        go_ret
        refine ⟨ret_bool ?_, (by ((try simp only [ext_drew]); (try simp only [ext_ext]); repeat (first | exact Ext.refl _ | with_reducible apply Ext.add | with_reducible apply Ext.dr | apply Ext.alloc | apply Ext.ext | apply Ext.drew | refine Ext.trans ?_ (by assumption))))⟩
        simp [msgOk, msgKind, Bool.and_assoc, h1, h2, h3, r1, r2, r3]
      | true =>
        cases r4 : (n == 0) with
        | false =>
          go_enter Try.func7, Try.ntmps7
          try go_wp2_with (first
              | (go_at_call 32; refine (sPlcOk_c _ _).mono ?_; rintro e w' ⟨rfl, t, rfl⟩) | (go_at_call 33; refine (l1In_c _ _ _ _).mono ?_; rintro e w' ⟨rfl, rfl⟩) | (go_at_call 34; refine (sPlcSide_c _ _ _ _).mono ?_; rintro e w' ⟨rfl, t, rfl⟩) | (go_at_call 37; refine (sPclOk_c _ _ _).mono ?_; rintro e w' ⟨rfl, t, rfl⟩) | (go_at_call 35; refine (bareFTF_c _ _ _ _ _ _ _ _ _).mono ?_; rintro e w' ⟨rfl, t, rfl⟩) | ((with_reducible refine load_gateG (T1 := 44) ?_); refine wpList_loadG (by rfl) _ _ rfl (w.heap.size + 1) #[.int .i64 5, .int .i64 to_, .int .i64 cell, .int .i64 side, .int .i64 n, .int .i64 o.who, .int .i64 o.seq, .int .i64 o.kind, .int .i64 o.to_, .int .i64 o.n, .int .i64 p.n, .int .i64 p.kind, .int .i64 p.wk.id, .int .i64 p.wk.at_, .int .i64 p.wk.coins, .int .i64 p.wk.seq, .int .i64 p.wk.last, .int .i64 p.coins, .int .i64 g.src, .int .i64 g.count, .int .i64 g.wk.id, .int .i64 g.wk.at_, .int .i64 g.wk.coins, .int .i64 g.wk.seq, .int .i64 g.wk.last] 44 _ rfl (by (repeat (first | with_reducible refine blk_ext ?_ | with_reducible apply blk_drew)); exact alloc_last (by (try simp [go_sem]) <;> (try simp [Xt.add]) <;> omega)) Try.underlying44 rfl (by kernel_rfl) ?_)
              | (
                with_reducible refine wp_region_mix (by kernel_rfl) (by decide +kernel) ?_
                repeat (first
                  | (refine mix_pure rfl ?_; (first | go_big_quiet_skip | (go_big_quiet_want; go_big_quiet_op; go_big_quiet_on)); refine wpQuiet_nil ?_)
                  | (refine mix_skip (by rfl) ?_; (try simp only [Act.put, List.setIfInBounds_toArray, List.set_cons_zero, List.set_cons_succ]))
                  | (refine mix_mk rfl (by rfl) (fun K hK => ?_); (first | (go_simp; first | (go_at_call 32; refine (sPlcOk_c _ _).mono ?_; rintro e w' ⟨rfl, t, rfl⟩) | (go_at_call 33; refine (l1In_c _ _ _ _).mono ?_; rintro e w' ⟨rfl, rfl⟩) | (go_at_call 34; refine (sPlcSide_c _ _ _ _).mono ?_; rintro e w' ⟨rfl, t, rfl⟩) | (go_at_call 37; refine (sPclOk_c _ _ _).mono ?_; rintro e w' ⟨rfl, t, rfl⟩) | (go_at_call 35; refine (bareFTF_c _ _ _ _ _ _ _ _ _).mono ?_; rintro e w' ⟨rfl, t, rfl⟩) | ((with_reducible refine load_gateG (T1 := 44) ?_); refine wpList_loadG (by rfl) _ _ rfl (w.heap.size + 1) #[.int .i64 5, .int .i64 to_, .int .i64 cell, .int .i64 side, .int .i64 n, .int .i64 o.who, .int .i64 o.seq, .int .i64 o.kind, .int .i64 o.to_, .int .i64 o.n, .int .i64 p.n, .int .i64 p.kind, .int .i64 p.wk.id, .int .i64 p.wk.at_, .int .i64 p.wk.coins, .int .i64 p.wk.seq, .int .i64 p.wk.last, .int .i64 p.coins, .int .i64 g.src, .int .i64 g.count, .int .i64 g.wk.id, .int .i64 g.wk.at_, .int .i64 g.wk.coins, .int .i64 g.wk.seq, .int .i64 g.wk.last] 44 _ rfl (by (repeat (first | with_reducible refine blk_ext ?_ | with_reducible apply blk_drew)); exact alloc_last (by (try simp [go_sem]) <;> (try simp [Xt.add]) <;> omega)) Try.underlying44 rfl (by kernel_rfl) ?_) | skip)); (show K _ _); refine hK _ _ (show Ext _ _ from (by ((try simp only [ext_drew]); (try simp only [ext_ext]); repeat (first | exact Ext.refl _ | with_reducible apply Ext.add | with_reducible apply Ext.dr | apply Ext.alloc | apply Ext.ext | apply Ext.drew | refine Ext.trans ?_ (by assumption))))) ?_; clear hK K; (try simp only [Act.put, List.setIfInBounds_toArray, List.set_cons_zero, List.set_cons_succ])))
                refine mix_nil ?_)
              | (
                with_reducible refine wp_region_ext (by kernel_rfl) (by kernel_rfl) ?_
                repeat (first | go_big_quiet_skip | (go_big_quiet_want; go_big_quiet_op; first | go_big_quiet_on | (apply Exists.intro; refine ⟨fun _ => ?_, ?_⟩; ((first | (go_at_call 32; first | exact quiet_call (sPlcOk_c _ _) | exact quiet_call2 (sPlcOk_c _ _)) | (go_at_call 33; first | exact quiet_same (l1In_c _ _ _ _) | exact quiet_same2 (l1In_c _ _ _ _)) | (go_at_call 34; first | exact quiet_call (sPlcSide_c _ _ _ _) | exact quiet_call2 (sPlcSide_c _ _ _ _)) | (go_at_call 37; first | exact quiet_call (sPclOk_c _ _ _) | exact quiet_call2 (sPclOk_c _ _ _)) | (go_at_call 35; first | exact quiet_call (bareFTF_c _ _ _ _ _ _ _ _ _) | exact quiet_call2 (bareFTF_c _ _ _ _ _ _ _ _ _)))); (try rw [h1]); (try rw [h2]); (try rw [h3]); (try rw [h4]); (try rw [p1]); (try rw [p2]); (try rw [p3]); (try rw [p4]); (try rw [r1]); (try rw [r2]); (try rw [r3]); (try rw [r4]); (try rw [r5]); (try rw [r6]); (try rw [q3]); (try rw [q4]); (try rw [hp]); (try rw [hq]); go_big_quiet_on)))
                refine wpQuiet_nil ?_
                rintro _ ⟨tq, rfl⟩))
          go_ret
          refine ⟨ret_bool ?_, (by ((try simp only [ext_drew]); (try simp only [ext_ext]); repeat (first | exact Ext.refl _ | with_reducible apply Ext.add | with_reducible apply Ext.dr | apply Ext.alloc | apply Ext.ext | apply Ext.drew | refine Ext.trans ?_ (by assumption))))⟩
          simp [msgOk, msgKind, Bool.and_assoc, h1, h2, h3, r1, r2, r3, r4]
        | true =>
          cases r5 : pclOk m p with
          | false =>
            go_enter Try.func7, Try.ntmps7
            try go_wp2_with (first
                | (go_at_call 32; refine (sPlcOk_c _ _).mono ?_; rintro e w' ⟨rfl, t, rfl⟩) | (go_at_call 33; refine (l1In_c _ _ _ _).mono ?_; rintro e w' ⟨rfl, rfl⟩) | (go_at_call 34; refine (sPlcSide_c _ _ _ _).mono ?_; rintro e w' ⟨rfl, t, rfl⟩) | (go_at_call 37; refine (sPclOk_c _ _ _).mono ?_; rintro e w' ⟨rfl, t, rfl⟩) | (go_at_call 35; refine (bareFTF_c _ _ _ _ _ _ _ _ _).mono ?_; rintro e w' ⟨rfl, t, rfl⟩) | ((with_reducible refine load_gateG (T1 := 44) ?_); refine wpList_loadG (by rfl) _ _ rfl (w.heap.size + 1) #[.int .i64 5, .int .i64 to_, .int .i64 cell, .int .i64 side, .int .i64 n, .int .i64 o.who, .int .i64 o.seq, .int .i64 o.kind, .int .i64 o.to_, .int .i64 o.n, .int .i64 p.n, .int .i64 p.kind, .int .i64 p.wk.id, .int .i64 p.wk.at_, .int .i64 p.wk.coins, .int .i64 p.wk.seq, .int .i64 p.wk.last, .int .i64 p.coins, .int .i64 g.src, .int .i64 g.count, .int .i64 g.wk.id, .int .i64 g.wk.at_, .int .i64 g.wk.coins, .int .i64 g.wk.seq, .int .i64 g.wk.last] 44 _ rfl (by (repeat (first | with_reducible refine blk_ext ?_ | with_reducible apply blk_drew)); exact alloc_last (by (try simp [go_sem]) <;> (try simp [Xt.add]) <;> omega)) Try.underlying44 rfl (by kernel_rfl) ?_)
                | (
                  with_reducible refine wp_region_mix (by kernel_rfl) (by decide +kernel) ?_
                  repeat (first
                    | (refine mix_pure rfl ?_; (first | go_big_quiet_skip | (go_big_quiet_want; go_big_quiet_op; go_big_quiet_on)); refine wpQuiet_nil ?_)
                    | (refine mix_skip (by rfl) ?_; (try simp only [Act.put, List.setIfInBounds_toArray, List.set_cons_zero, List.set_cons_succ]))
                    | (refine mix_mk rfl (by rfl) (fun K hK => ?_); (first | (go_simp; first | (go_at_call 32; refine (sPlcOk_c _ _).mono ?_; rintro e w' ⟨rfl, t, rfl⟩) | (go_at_call 33; refine (l1In_c _ _ _ _).mono ?_; rintro e w' ⟨rfl, rfl⟩) | (go_at_call 34; refine (sPlcSide_c _ _ _ _).mono ?_; rintro e w' ⟨rfl, t, rfl⟩) | (go_at_call 37; refine (sPclOk_c _ _ _).mono ?_; rintro e w' ⟨rfl, t, rfl⟩) | (go_at_call 35; refine (bareFTF_c _ _ _ _ _ _ _ _ _).mono ?_; rintro e w' ⟨rfl, t, rfl⟩) | ((with_reducible refine load_gateG (T1 := 44) ?_); refine wpList_loadG (by rfl) _ _ rfl (w.heap.size + 1) #[.int .i64 5, .int .i64 to_, .int .i64 cell, .int .i64 side, .int .i64 n, .int .i64 o.who, .int .i64 o.seq, .int .i64 o.kind, .int .i64 o.to_, .int .i64 o.n, .int .i64 p.n, .int .i64 p.kind, .int .i64 p.wk.id, .int .i64 p.wk.at_, .int .i64 p.wk.coins, .int .i64 p.wk.seq, .int .i64 p.wk.last, .int .i64 p.coins, .int .i64 g.src, .int .i64 g.count, .int .i64 g.wk.id, .int .i64 g.wk.at_, .int .i64 g.wk.coins, .int .i64 g.wk.seq, .int .i64 g.wk.last] 44 _ rfl (by (repeat (first | with_reducible refine blk_ext ?_ | with_reducible apply blk_drew)); exact alloc_last (by (try simp [go_sem]) <;> (try simp [Xt.add]) <;> omega)) Try.underlying44 rfl (by kernel_rfl) ?_) | skip)); (show K _ _); refine hK _ _ (show Ext _ _ from (by ((try simp only [ext_drew]); (try simp only [ext_ext]); repeat (first | exact Ext.refl _ | with_reducible apply Ext.add | with_reducible apply Ext.dr | apply Ext.alloc | apply Ext.ext | apply Ext.drew | refine Ext.trans ?_ (by assumption))))) ?_; clear hK K; (try simp only [Act.put, List.setIfInBounds_toArray, List.set_cons_zero, List.set_cons_succ])))
                  refine mix_nil ?_)
                | (
                  with_reducible refine wp_region_ext (by kernel_rfl) (by kernel_rfl) ?_
                  repeat (first | go_big_quiet_skip | (go_big_quiet_want; go_big_quiet_op; first | go_big_quiet_on | (apply Exists.intro; refine ⟨fun _ => ?_, ?_⟩; ((first | (go_at_call 32; first | exact quiet_call (sPlcOk_c _ _) | exact quiet_call2 (sPlcOk_c _ _)) | (go_at_call 33; first | exact quiet_same (l1In_c _ _ _ _) | exact quiet_same2 (l1In_c _ _ _ _)) | (go_at_call 34; first | exact quiet_call (sPlcSide_c _ _ _ _) | exact quiet_call2 (sPlcSide_c _ _ _ _)) | (go_at_call 37; first | exact quiet_call (sPclOk_c _ _ _) | exact quiet_call2 (sPclOk_c _ _ _)) | (go_at_call 35; first | exact quiet_call (bareFTF_c _ _ _ _ _ _ _ _ _) | exact quiet_call2 (bareFTF_c _ _ _ _ _ _ _ _ _)))); (try rw [h1]); (try rw [h2]); (try rw [h3]); (try rw [h4]); (try rw [p1]); (try rw [p2]); (try rw [p3]); (try rw [p4]); (try rw [r1]); (try rw [r2]); (try rw [r3]); (try rw [r4]); (try rw [r5]); (try rw [r6]); (try rw [q3]); (try rw [q4]); (try rw [hp]); (try rw [hq]); go_big_quiet_on)))
                  refine wpQuiet_nil ?_
                  rintro _ ⟨tq, rfl⟩))
            go_ret
            refine ⟨ret_bool ?_, (by ((try simp only [ext_drew]); (try simp only [ext_ext]); repeat (first | exact Ext.refl _ | with_reducible apply Ext.add | with_reducible apply Ext.dr | apply Ext.alloc | apply Ext.ext | apply Ext.drew | refine Ext.trans ?_ (by assumption))))⟩
            simp [msgOk, msgKind, Bool.and_assoc, h1, h2, h3, r1, r2, r3, r4, r5]
          | true =>
            go_enter Try.func7, Try.ntmps7
            try go_wp2_with (first
                | (go_at_call 32; refine (sPlcOk_c _ _).mono ?_; rintro e w' ⟨rfl, t, rfl⟩) | (go_at_call 33; refine (l1In_c _ _ _ _).mono ?_; rintro e w' ⟨rfl, rfl⟩) | (go_at_call 34; refine (sPlcSide_c _ _ _ _).mono ?_; rintro e w' ⟨rfl, t, rfl⟩) | (go_at_call 37; refine (sPclOk_c _ _ _).mono ?_; rintro e w' ⟨rfl, t, rfl⟩) | (go_at_call 35; refine (bareFTF_c _ _ _ _ _ _ _ _ _).mono ?_; rintro e w' ⟨rfl, t, rfl⟩) | ((with_reducible refine load_gateG (T1 := 44) ?_); refine wpList_loadG (by rfl) _ _ rfl (w.heap.size + 1) #[.int .i64 5, .int .i64 to_, .int .i64 cell, .int .i64 side, .int .i64 n, .int .i64 o.who, .int .i64 o.seq, .int .i64 o.kind, .int .i64 o.to_, .int .i64 o.n, .int .i64 p.n, .int .i64 p.kind, .int .i64 p.wk.id, .int .i64 p.wk.at_, .int .i64 p.wk.coins, .int .i64 p.wk.seq, .int .i64 p.wk.last, .int .i64 p.coins, .int .i64 g.src, .int .i64 g.count, .int .i64 g.wk.id, .int .i64 g.wk.at_, .int .i64 g.wk.coins, .int .i64 g.wk.seq, .int .i64 g.wk.last] 44 _ rfl (by (repeat (first | with_reducible refine blk_ext ?_ | with_reducible apply blk_drew)); exact alloc_last (by (try simp [go_sem]) <;> (try simp [Xt.add]) <;> omega)) Try.underlying44 rfl (by kernel_rfl) ?_)
                | (
                  with_reducible refine wp_region_mix (by kernel_rfl) (by decide +kernel) ?_
                  repeat (first
                    | (refine mix_pure rfl ?_; (first | go_big_quiet_skip | (go_big_quiet_want; go_big_quiet_op; go_big_quiet_on)); refine wpQuiet_nil ?_)
                    | (refine mix_skip (by rfl) ?_; (try simp only [Act.put, List.setIfInBounds_toArray, List.set_cons_zero, List.set_cons_succ]))
                    | (refine mix_mk rfl (by rfl) (fun K hK => ?_); (first | (go_simp; first | (go_at_call 32; refine (sPlcOk_c _ _).mono ?_; rintro e w' ⟨rfl, t, rfl⟩) | (go_at_call 33; refine (l1In_c _ _ _ _).mono ?_; rintro e w' ⟨rfl, rfl⟩) | (go_at_call 34; refine (sPlcSide_c _ _ _ _).mono ?_; rintro e w' ⟨rfl, t, rfl⟩) | (go_at_call 37; refine (sPclOk_c _ _ _).mono ?_; rintro e w' ⟨rfl, t, rfl⟩) | (go_at_call 35; refine (bareFTF_c _ _ _ _ _ _ _ _ _).mono ?_; rintro e w' ⟨rfl, t, rfl⟩) | ((with_reducible refine load_gateG (T1 := 44) ?_); refine wpList_loadG (by rfl) _ _ rfl (w.heap.size + 1) #[.int .i64 5, .int .i64 to_, .int .i64 cell, .int .i64 side, .int .i64 n, .int .i64 o.who, .int .i64 o.seq, .int .i64 o.kind, .int .i64 o.to_, .int .i64 o.n, .int .i64 p.n, .int .i64 p.kind, .int .i64 p.wk.id, .int .i64 p.wk.at_, .int .i64 p.wk.coins, .int .i64 p.wk.seq, .int .i64 p.wk.last, .int .i64 p.coins, .int .i64 g.src, .int .i64 g.count, .int .i64 g.wk.id, .int .i64 g.wk.at_, .int .i64 g.wk.coins, .int .i64 g.wk.seq, .int .i64 g.wk.last] 44 _ rfl (by (repeat (first | with_reducible refine blk_ext ?_ | with_reducible apply blk_drew)); exact alloc_last (by (try simp [go_sem]) <;> (try simp [Xt.add]) <;> omega)) Try.underlying44 rfl (by kernel_rfl) ?_) | skip)); (show K _ _); refine hK _ _ (show Ext _ _ from (by ((try simp only [ext_drew]); (try simp only [ext_ext]); repeat (first | exact Ext.refl _ | with_reducible apply Ext.add | with_reducible apply Ext.dr | apply Ext.alloc | apply Ext.ext | apply Ext.drew | refine Ext.trans ?_ (by assumption))))) ?_; clear hK K; (try simp only [Act.put, List.setIfInBounds_toArray, List.set_cons_zero, List.set_cons_succ])))
                  refine mix_nil ?_)
                | (
                  with_reducible refine wp_region_ext (by kernel_rfl) (by kernel_rfl) ?_
                  repeat (first | go_big_quiet_skip | (go_big_quiet_want; go_big_quiet_op; first | go_big_quiet_on | (apply Exists.intro; refine ⟨fun _ => ?_, ?_⟩; ((first | (go_at_call 32; first | exact quiet_call (sPlcOk_c _ _) | exact quiet_call2 (sPlcOk_c _ _)) | (go_at_call 33; first | exact quiet_same (l1In_c _ _ _ _) | exact quiet_same2 (l1In_c _ _ _ _)) | (go_at_call 34; first | exact quiet_call (sPlcSide_c _ _ _ _) | exact quiet_call2 (sPlcSide_c _ _ _ _)) | (go_at_call 37; first | exact quiet_call (sPclOk_c _ _ _) | exact quiet_call2 (sPclOk_c _ _ _)) | (go_at_call 35; first | exact quiet_call (bareFTF_c _ _ _ _ _ _ _ _ _) | exact quiet_call2 (bareFTF_c _ _ _ _ _ _ _ _ _)))); (try rw [h1]); (try rw [h2]); (try rw [h3]); (try rw [h4]); (try rw [p1]); (try rw [p2]); (try rw [p3]); (try rw [p4]); (try rw [r1]); (try rw [r2]); (try rw [r3]); (try rw [r4]); (try rw [r5]); (try rw [r6]); (try rw [q3]); (try rw [q4]); (try rw [hp]); (try rw [hq]); go_big_quiet_on)))
                  refine wpQuiet_nil ?_
                  rintro _ ⟨tq, rfl⟩))
            go_ret
            refine ⟨ret_bool ?_, (by ((try simp only [ext_drew]); (try simp only [ext_ext]); repeat (first | exact Ext.refl _ | with_reducible apply Ext.add | with_reducible apply Ext.dr | apply Ext.alloc | apply Ext.ext | apply Ext.drew | refine Ext.trans ?_ (by assumption))))⟩
            simp [msgOk, msgKind, Bool.and_assoc, h1, h2, h3, r1, r2, r3, r4, r5]
set_option maxRecDepth 100000 in
set_option maxHeartbeats 4000000 in
theorem sMsgOk_k6 (m : Mp) (s to_ cell side n : Int) (o : Ord) (p : Pcl) (g : Gst) (w : World) (h1 : plcOk m = true) (h2 : inB s 1 3 = true) (h3 : inB cell 0 (m.c - 1) = true) (s1 : 1 ≤ s) (s2 : s ≤ 3) (m1 : 2 ≤ m.c) (m2 : m.c ≤ 4) :
    Calls Try.prog 7 #[.agg #[.int .i64 m.c, .int .i64 m.w], .int .i64 s, .agg #[.int .i64 6, .int .i64 to_, .int .i64 cell, .int .i64 side, .int .i64 n, .int .i64 o.who, .int .i64 o.seq, .int .i64 o.kind, .int .i64 o.to_, .int .i64 o.n, .int .i64 p.n, .int .i64 p.kind, .int .i64 p.wk.id, .int .i64 p.wk.at_, .int .i64 p.wk.coins, .int .i64 p.wk.seq, .int .i64 p.wk.last, .int .i64 p.coins, .int .i64 g.src, .int .i64 g.count, .int .i64 g.wk.id, .int .i64 g.wk.at_, .int .i64 g.wk.coins, .int .i64 g.wk.seq, .int .i64 g.wk.last]] w fun e w' => e = .returned (.bool (msgOk m s ⟨6, to_, cell, side, n, o, p, g⟩)) ∧ Ext w w' := by
  cases r1 : inB side 0 1 with
  | false =>
    go_enter Try.func7, Try.ntmps7
    try go_wp2_with (first
        | (go_at_call 32; refine (sPlcOk_c _ _).mono ?_; rintro e w' ⟨rfl, t, rfl⟩) | (go_at_call 33; refine (l1In_c _ _ _ _).mono ?_; rintro e w' ⟨rfl, rfl⟩) | (go_at_call 34; refine (sPlcSide_c _ _ _ _).mono ?_; rintro e w' ⟨rfl, t, rfl⟩) | (go_at_call 35; refine (bareFFF_c _ _ _ _ _ _ _ _ _).mono ?_; rintro e w' ⟨rfl, t, rfl⟩) | ((with_reducible refine load_gateG (T1 := 44) ?_); refine wpList_loadG (by rfl) _ _ rfl (w.heap.size + 1) #[.int .i64 6, .int .i64 to_, .int .i64 cell, .int .i64 side, .int .i64 n, .int .i64 o.who, .int .i64 o.seq, .int .i64 o.kind, .int .i64 o.to_, .int .i64 o.n, .int .i64 p.n, .int .i64 p.kind, .int .i64 p.wk.id, .int .i64 p.wk.at_, .int .i64 p.wk.coins, .int .i64 p.wk.seq, .int .i64 p.wk.last, .int .i64 p.coins, .int .i64 g.src, .int .i64 g.count, .int .i64 g.wk.id, .int .i64 g.wk.at_, .int .i64 g.wk.coins, .int .i64 g.wk.seq, .int .i64 g.wk.last] 44 _ rfl (by (repeat (first | with_reducible refine blk_ext ?_ | with_reducible apply blk_drew)); exact alloc_last (by (try simp [go_sem]) <;> (try simp [Xt.add]) <;> omega)) Try.underlying44 rfl (by kernel_rfl) ?_)
        | (
          with_reducible refine wp_region_mix (by kernel_rfl) (by decide +kernel) ?_
          repeat (first
            | (refine mix_pure rfl ?_; (first | go_big_quiet_skip | (go_big_quiet_want; go_big_quiet_op; go_big_quiet_on)); refine wpQuiet_nil ?_)
            | (refine mix_skip (by rfl) ?_; (try simp only [Act.put, List.setIfInBounds_toArray, List.set_cons_zero, List.set_cons_succ]))
            | (refine mix_mk rfl (by rfl) (fun K hK => ?_); (first | (go_simp; first | (go_at_call 32; refine (sPlcOk_c _ _).mono ?_; rintro e w' ⟨rfl, t, rfl⟩) | (go_at_call 33; refine (l1In_c _ _ _ _).mono ?_; rintro e w' ⟨rfl, rfl⟩) | (go_at_call 34; refine (sPlcSide_c _ _ _ _).mono ?_; rintro e w' ⟨rfl, t, rfl⟩) | (go_at_call 35; refine (bareFFF_c _ _ _ _ _ _ _ _ _).mono ?_; rintro e w' ⟨rfl, t, rfl⟩) | ((with_reducible refine load_gateG (T1 := 44) ?_); refine wpList_loadG (by rfl) _ _ rfl (w.heap.size + 1) #[.int .i64 6, .int .i64 to_, .int .i64 cell, .int .i64 side, .int .i64 n, .int .i64 o.who, .int .i64 o.seq, .int .i64 o.kind, .int .i64 o.to_, .int .i64 o.n, .int .i64 p.n, .int .i64 p.kind, .int .i64 p.wk.id, .int .i64 p.wk.at_, .int .i64 p.wk.coins, .int .i64 p.wk.seq, .int .i64 p.wk.last, .int .i64 p.coins, .int .i64 g.src, .int .i64 g.count, .int .i64 g.wk.id, .int .i64 g.wk.at_, .int .i64 g.wk.coins, .int .i64 g.wk.seq, .int .i64 g.wk.last] 44 _ rfl (by (repeat (first | with_reducible refine blk_ext ?_ | with_reducible apply blk_drew)); exact alloc_last (by (try simp [go_sem]) <;> (try simp [Xt.add]) <;> omega)) Try.underlying44 rfl (by kernel_rfl) ?_) | skip)); (show K _ _); refine hK _ _ (show Ext _ _ from (by ((try simp only [ext_drew]); (try simp only [ext_ext]); repeat (first | exact Ext.refl _ | with_reducible apply Ext.add | with_reducible apply Ext.dr | apply Ext.alloc | apply Ext.ext | apply Ext.drew | refine Ext.trans ?_ (by assumption))))) ?_; clear hK K; (try simp only [Act.put, List.setIfInBounds_toArray, List.set_cons_zero, List.set_cons_succ])))
          refine mix_nil ?_)
        | (
          with_reducible refine wp_region_ext (by kernel_rfl) (by kernel_rfl) ?_
          repeat (first | go_big_quiet_skip | (go_big_quiet_want; go_big_quiet_op; first | go_big_quiet_on | (apply Exists.intro; refine ⟨fun _ => ?_, ?_⟩; ((first | (go_at_call 32; first | exact quiet_call (sPlcOk_c _ _) | exact quiet_call2 (sPlcOk_c _ _)) | (go_at_call 33; first | exact quiet_same (l1In_c _ _ _ _) | exact quiet_same2 (l1In_c _ _ _ _)) | (go_at_call 34; first | exact quiet_call (sPlcSide_c _ _ _ _) | exact quiet_call2 (sPlcSide_c _ _ _ _)) | (go_at_call 35; first | exact quiet_call (bareFFF_c _ _ _ _ _ _ _ _ _) | exact quiet_call2 (bareFFF_c _ _ _ _ _ _ _ _ _)))); (try rw [h1]); (try rw [h2]); (try rw [h3]); (try rw [h4]); (try rw [p1]); (try rw [p2]); (try rw [p3]); (try rw [p4]); (try rw [r1]); (try rw [r2]); (try rw [r3]); (try rw [r4]); (try rw [r5]); (try rw [r6]); (try rw [q3]); (try rw [q4]); (try rw [hp]); (try rw [hq]); go_big_quiet_on)))
          refine wpQuiet_nil ?_
          rintro _ ⟨tq, rfl⟩))
    go_ret
    refine ⟨ret_bool ?_, (by ((try simp only [ext_drew]); (try simp only [ext_ext]); repeat (first | exact Ext.refl _ | with_reducible apply Ext.add | with_reducible apply Ext.dr | apply Ext.alloc | apply Ext.ext | apply Ext.drew | refine Ext.trans ?_ (by assumption))))⟩
    have hs0 : plcSide m cell side = -1 := plcSide_no cell r1
    simp [msgOk, msgKind, Bool.and_assoc, h1, h2, h3, r1, hs0]
  | true =>
    cases r2 : inB to_ 0 (s - 1) with
    | false =>
      go_enter Try.func7, Try.ntmps7
      try go_wp2_with (first
          | (go_at_call 32; refine (sPlcOk_c _ _).mono ?_; rintro e w' ⟨rfl, t, rfl⟩) | (go_at_call 33; refine (l1In_c _ _ _ _).mono ?_; rintro e w' ⟨rfl, rfl⟩) | (go_at_call 34; refine (sPlcSide_c _ _ _ _).mono ?_; rintro e w' ⟨rfl, t, rfl⟩) | (go_at_call 35; refine (bareFFF_c _ _ _ _ _ _ _ _ _).mono ?_; rintro e w' ⟨rfl, t, rfl⟩) | ((with_reducible refine load_gateG (T1 := 44) ?_); refine wpList_loadG (by rfl) _ _ rfl (w.heap.size + 1) #[.int .i64 6, .int .i64 to_, .int .i64 cell, .int .i64 side, .int .i64 n, .int .i64 o.who, .int .i64 o.seq, .int .i64 o.kind, .int .i64 o.to_, .int .i64 o.n, .int .i64 p.n, .int .i64 p.kind, .int .i64 p.wk.id, .int .i64 p.wk.at_, .int .i64 p.wk.coins, .int .i64 p.wk.seq, .int .i64 p.wk.last, .int .i64 p.coins, .int .i64 g.src, .int .i64 g.count, .int .i64 g.wk.id, .int .i64 g.wk.at_, .int .i64 g.wk.coins, .int .i64 g.wk.seq, .int .i64 g.wk.last] 44 _ rfl (by (repeat (first | with_reducible refine blk_ext ?_ | with_reducible apply blk_drew)); exact alloc_last (by (try simp [go_sem]) <;> (try simp [Xt.add]) <;> omega)) Try.underlying44 rfl (by kernel_rfl) ?_)
          | (
            with_reducible refine wp_region_mix (by kernel_rfl) (by decide +kernel) ?_
            repeat (first
              | (refine mix_pure rfl ?_; (first | go_big_quiet_skip | (go_big_quiet_want; go_big_quiet_op; go_big_quiet_on)); refine wpQuiet_nil ?_)
              | (refine mix_skip (by rfl) ?_; (try simp only [Act.put, List.setIfInBounds_toArray, List.set_cons_zero, List.set_cons_succ]))
              | (refine mix_mk rfl (by rfl) (fun K hK => ?_); (first | (go_simp; first | (go_at_call 32; refine (sPlcOk_c _ _).mono ?_; rintro e w' ⟨rfl, t, rfl⟩) | (go_at_call 33; refine (l1In_c _ _ _ _).mono ?_; rintro e w' ⟨rfl, rfl⟩) | (go_at_call 34; refine (sPlcSide_c _ _ _ _).mono ?_; rintro e w' ⟨rfl, t, rfl⟩) | (go_at_call 35; refine (bareFFF_c _ _ _ _ _ _ _ _ _).mono ?_; rintro e w' ⟨rfl, t, rfl⟩) | ((with_reducible refine load_gateG (T1 := 44) ?_); refine wpList_loadG (by rfl) _ _ rfl (w.heap.size + 1) #[.int .i64 6, .int .i64 to_, .int .i64 cell, .int .i64 side, .int .i64 n, .int .i64 o.who, .int .i64 o.seq, .int .i64 o.kind, .int .i64 o.to_, .int .i64 o.n, .int .i64 p.n, .int .i64 p.kind, .int .i64 p.wk.id, .int .i64 p.wk.at_, .int .i64 p.wk.coins, .int .i64 p.wk.seq, .int .i64 p.wk.last, .int .i64 p.coins, .int .i64 g.src, .int .i64 g.count, .int .i64 g.wk.id, .int .i64 g.wk.at_, .int .i64 g.wk.coins, .int .i64 g.wk.seq, .int .i64 g.wk.last] 44 _ rfl (by (repeat (first | with_reducible refine blk_ext ?_ | with_reducible apply blk_drew)); exact alloc_last (by (try simp [go_sem]) <;> (try simp [Xt.add]) <;> omega)) Try.underlying44 rfl (by kernel_rfl) ?_) | skip)); (show K _ _); refine hK _ _ (show Ext _ _ from (by ((try simp only [ext_drew]); (try simp only [ext_ext]); repeat (first | exact Ext.refl _ | with_reducible apply Ext.add | with_reducible apply Ext.dr | apply Ext.alloc | apply Ext.ext | apply Ext.drew | refine Ext.trans ?_ (by assumption))))) ?_; clear hK K; (try simp only [Act.put, List.setIfInBounds_toArray, List.set_cons_zero, List.set_cons_succ])))
            refine mix_nil ?_)
          | (
            with_reducible refine wp_region_ext (by kernel_rfl) (by kernel_rfl) ?_
            repeat (first | go_big_quiet_skip | (go_big_quiet_want; go_big_quiet_op; first | go_big_quiet_on | (apply Exists.intro; refine ⟨fun _ => ?_, ?_⟩; ((first | (go_at_call 32; first | exact quiet_call (sPlcOk_c _ _) | exact quiet_call2 (sPlcOk_c _ _)) | (go_at_call 33; first | exact quiet_same (l1In_c _ _ _ _) | exact quiet_same2 (l1In_c _ _ _ _)) | (go_at_call 34; first | exact quiet_call (sPlcSide_c _ _ _ _) | exact quiet_call2 (sPlcSide_c _ _ _ _)) | (go_at_call 35; first | exact quiet_call (bareFFF_c _ _ _ _ _ _ _ _ _) | exact quiet_call2 (bareFFF_c _ _ _ _ _ _ _ _ _)))); (try rw [h1]); (try rw [h2]); (try rw [h3]); (try rw [h4]); (try rw [p1]); (try rw [p2]); (try rw [p3]); (try rw [p4]); (try rw [r1]); (try rw [r2]); (try rw [r3]); (try rw [r4]); (try rw [r5]); (try rw [r6]); (try rw [q3]); (try rw [q4]); (try rw [hp]); (try rw [hq]); go_big_quiet_on)))
            refine wpQuiet_nil ?_
            rintro _ ⟨tq, rfl⟩))
      go_ret
      refine ⟨ret_bool ?_, (by ((try simp only [ext_drew]); (try simp only [ext_ext]); repeat (first | exact Ext.refl _ | with_reducible apply Ext.add | with_reducible apply Ext.dr | apply Ext.alloc | apply Ext.ext | apply Ext.drew | refine Ext.trans ?_ (by assumption))))⟩
      simp [msgOk, msgKind, Bool.and_assoc, h1, h2, h3, r1, r2]
    | true =>
      cases r3 : (plcSide m cell side != -1) with
      | false =>
        go_enter Try.func7, Try.ntmps7
        try go_wp2_with (first
            | (go_at_call 32; refine (sPlcOk_c _ _).mono ?_; rintro e w' ⟨rfl, t, rfl⟩) | (go_at_call 33; refine (l1In_c _ _ _ _).mono ?_; rintro e w' ⟨rfl, rfl⟩) | (go_at_call 34; refine (sPlcSide_c _ _ _ _).mono ?_; rintro e w' ⟨rfl, t, rfl⟩) | (go_at_call 35; refine (bareFFF_c _ _ _ _ _ _ _ _ _).mono ?_; rintro e w' ⟨rfl, t, rfl⟩) | ((with_reducible refine load_gateG (T1 := 44) ?_); refine wpList_loadG (by rfl) _ _ rfl (w.heap.size + 1) #[.int .i64 6, .int .i64 to_, .int .i64 cell, .int .i64 side, .int .i64 n, .int .i64 o.who, .int .i64 o.seq, .int .i64 o.kind, .int .i64 o.to_, .int .i64 o.n, .int .i64 p.n, .int .i64 p.kind, .int .i64 p.wk.id, .int .i64 p.wk.at_, .int .i64 p.wk.coins, .int .i64 p.wk.seq, .int .i64 p.wk.last, .int .i64 p.coins, .int .i64 g.src, .int .i64 g.count, .int .i64 g.wk.id, .int .i64 g.wk.at_, .int .i64 g.wk.coins, .int .i64 g.wk.seq, .int .i64 g.wk.last] 44 _ rfl (by (repeat (first | with_reducible refine blk_ext ?_ | with_reducible apply blk_drew)); exact alloc_last (by (try simp [go_sem]) <;> (try simp [Xt.add]) <;> omega)) Try.underlying44 rfl (by kernel_rfl) ?_)
            | (
              with_reducible refine wp_region_mix (by kernel_rfl) (by decide +kernel) ?_
              repeat (first
                | (refine mix_pure rfl ?_; (first | go_big_quiet_skip | (go_big_quiet_want; go_big_quiet_op; go_big_quiet_on)); refine wpQuiet_nil ?_)
                | (refine mix_skip (by rfl) ?_; (try simp only [Act.put, List.setIfInBounds_toArray, List.set_cons_zero, List.set_cons_succ]))
                | (refine mix_mk rfl (by rfl) (fun K hK => ?_); (first | (go_simp; first | (go_at_call 32; refine (sPlcOk_c _ _).mono ?_; rintro e w' ⟨rfl, t, rfl⟩) | (go_at_call 33; refine (l1In_c _ _ _ _).mono ?_; rintro e w' ⟨rfl, rfl⟩) | (go_at_call 34; refine (sPlcSide_c _ _ _ _).mono ?_; rintro e w' ⟨rfl, t, rfl⟩) | (go_at_call 35; refine (bareFFF_c _ _ _ _ _ _ _ _ _).mono ?_; rintro e w' ⟨rfl, t, rfl⟩) | ((with_reducible refine load_gateG (T1 := 44) ?_); refine wpList_loadG (by rfl) _ _ rfl (w.heap.size + 1) #[.int .i64 6, .int .i64 to_, .int .i64 cell, .int .i64 side, .int .i64 n, .int .i64 o.who, .int .i64 o.seq, .int .i64 o.kind, .int .i64 o.to_, .int .i64 o.n, .int .i64 p.n, .int .i64 p.kind, .int .i64 p.wk.id, .int .i64 p.wk.at_, .int .i64 p.wk.coins, .int .i64 p.wk.seq, .int .i64 p.wk.last, .int .i64 p.coins, .int .i64 g.src, .int .i64 g.count, .int .i64 g.wk.id, .int .i64 g.wk.at_, .int .i64 g.wk.coins, .int .i64 g.wk.seq, .int .i64 g.wk.last] 44 _ rfl (by (repeat (first | with_reducible refine blk_ext ?_ | with_reducible apply blk_drew)); exact alloc_last (by (try simp [go_sem]) <;> (try simp [Xt.add]) <;> omega)) Try.underlying44 rfl (by kernel_rfl) ?_) | skip)); (show K _ _); refine hK _ _ (show Ext _ _ from (by ((try simp only [ext_drew]); (try simp only [ext_ext]); repeat (first | exact Ext.refl _ | with_reducible apply Ext.add | with_reducible apply Ext.dr | apply Ext.alloc | apply Ext.ext | apply Ext.drew | refine Ext.trans ?_ (by assumption))))) ?_; clear hK K; (try simp only [Act.put, List.setIfInBounds_toArray, List.set_cons_zero, List.set_cons_succ])))
              refine mix_nil ?_)
            | (
              with_reducible refine wp_region_ext (by kernel_rfl) (by kernel_rfl) ?_
              repeat (first | go_big_quiet_skip | (go_big_quiet_want; go_big_quiet_op; first | go_big_quiet_on | (apply Exists.intro; refine ⟨fun _ => ?_, ?_⟩; ((first | (go_at_call 32; first | exact quiet_call (sPlcOk_c _ _) | exact quiet_call2 (sPlcOk_c _ _)) | (go_at_call 33; first | exact quiet_same (l1In_c _ _ _ _) | exact quiet_same2 (l1In_c _ _ _ _)) | (go_at_call 34; first | exact quiet_call (sPlcSide_c _ _ _ _) | exact quiet_call2 (sPlcSide_c _ _ _ _)) | (go_at_call 35; first | exact quiet_call (bareFFF_c _ _ _ _ _ _ _ _ _) | exact quiet_call2 (bareFFF_c _ _ _ _ _ _ _ _ _)))); (try rw [h1]); (try rw [h2]); (try rw [h3]); (try rw [h4]); (try rw [p1]); (try rw [p2]); (try rw [p3]); (try rw [p4]); (try rw [r1]); (try rw [r2]); (try rw [r3]); (try rw [r4]); (try rw [r5]); (try rw [r6]); (try rw [q3]); (try rw [q4]); (try rw [hp]); (try rw [hq]); go_big_quiet_on)))
              refine wpQuiet_nil ?_
              rintro _ ⟨tq, rfl⟩))
        go_ret
        refine ⟨ret_bool ?_, (by ((try simp only [ext_drew]); (try simp only [ext_ext]); repeat (first | exact Ext.refl _ | with_reducible apply Ext.add | with_reducible apply Ext.dr | apply Ext.alloc | apply Ext.ext | apply Ext.drew | refine Ext.trans ?_ (by assumption))))⟩
        simp [msgOk, msgKind, Bool.and_assoc, h1, h2, h3, r1, r2, r3]
      | true =>
        cases r4 : inB n 1 5000 with
        | false =>
          go_enter Try.func7, Try.ntmps7
          try go_wp2_with (first
              | (go_at_call 32; refine (sPlcOk_c _ _).mono ?_; rintro e w' ⟨rfl, t, rfl⟩) | (go_at_call 33; refine (l1In_c _ _ _ _).mono ?_; rintro e w' ⟨rfl, rfl⟩) | (go_at_call 34; refine (sPlcSide_c _ _ _ _).mono ?_; rintro e w' ⟨rfl, t, rfl⟩) | (go_at_call 35; refine (bareFFF_c _ _ _ _ _ _ _ _ _).mono ?_; rintro e w' ⟨rfl, t, rfl⟩) | ((with_reducible refine load_gateG (T1 := 44) ?_); refine wpList_loadG (by rfl) _ _ rfl (w.heap.size + 1) #[.int .i64 6, .int .i64 to_, .int .i64 cell, .int .i64 side, .int .i64 n, .int .i64 o.who, .int .i64 o.seq, .int .i64 o.kind, .int .i64 o.to_, .int .i64 o.n, .int .i64 p.n, .int .i64 p.kind, .int .i64 p.wk.id, .int .i64 p.wk.at_, .int .i64 p.wk.coins, .int .i64 p.wk.seq, .int .i64 p.wk.last, .int .i64 p.coins, .int .i64 g.src, .int .i64 g.count, .int .i64 g.wk.id, .int .i64 g.wk.at_, .int .i64 g.wk.coins, .int .i64 g.wk.seq, .int .i64 g.wk.last] 44 _ rfl (by (repeat (first | with_reducible refine blk_ext ?_ | with_reducible apply blk_drew)); exact alloc_last (by (try simp [go_sem]) <;> (try simp [Xt.add]) <;> omega)) Try.underlying44 rfl (by kernel_rfl) ?_)
              | (
                with_reducible refine wp_region_mix (by kernel_rfl) (by decide +kernel) ?_
                repeat (first
                  | (refine mix_pure rfl ?_; (first | go_big_quiet_skip | (go_big_quiet_want; go_big_quiet_op; go_big_quiet_on)); refine wpQuiet_nil ?_)
                  | (refine mix_skip (by rfl) ?_; (try simp only [Act.put, List.setIfInBounds_toArray, List.set_cons_zero, List.set_cons_succ]))
                  | (refine mix_mk rfl (by rfl) (fun K hK => ?_); (first | (go_simp; first | (go_at_call 32; refine (sPlcOk_c _ _).mono ?_; rintro e w' ⟨rfl, t, rfl⟩) | (go_at_call 33; refine (l1In_c _ _ _ _).mono ?_; rintro e w' ⟨rfl, rfl⟩) | (go_at_call 34; refine (sPlcSide_c _ _ _ _).mono ?_; rintro e w' ⟨rfl, t, rfl⟩) | (go_at_call 35; refine (bareFFF_c _ _ _ _ _ _ _ _ _).mono ?_; rintro e w' ⟨rfl, t, rfl⟩) | ((with_reducible refine load_gateG (T1 := 44) ?_); refine wpList_loadG (by rfl) _ _ rfl (w.heap.size + 1) #[.int .i64 6, .int .i64 to_, .int .i64 cell, .int .i64 side, .int .i64 n, .int .i64 o.who, .int .i64 o.seq, .int .i64 o.kind, .int .i64 o.to_, .int .i64 o.n, .int .i64 p.n, .int .i64 p.kind, .int .i64 p.wk.id, .int .i64 p.wk.at_, .int .i64 p.wk.coins, .int .i64 p.wk.seq, .int .i64 p.wk.last, .int .i64 p.coins, .int .i64 g.src, .int .i64 g.count, .int .i64 g.wk.id, .int .i64 g.wk.at_, .int .i64 g.wk.coins, .int .i64 g.wk.seq, .int .i64 g.wk.last] 44 _ rfl (by (repeat (first | with_reducible refine blk_ext ?_ | with_reducible apply blk_drew)); exact alloc_last (by (try simp [go_sem]) <;> (try simp [Xt.add]) <;> omega)) Try.underlying44 rfl (by kernel_rfl) ?_) | skip)); (show K _ _); refine hK _ _ (show Ext _ _ from (by ((try simp only [ext_drew]); (try simp only [ext_ext]); repeat (first | exact Ext.refl _ | with_reducible apply Ext.add | with_reducible apply Ext.dr | apply Ext.alloc | apply Ext.ext | apply Ext.drew | refine Ext.trans ?_ (by assumption))))) ?_; clear hK K; (try simp only [Act.put, List.setIfInBounds_toArray, List.set_cons_zero, List.set_cons_succ])))
                refine mix_nil ?_)
              | (
                with_reducible refine wp_region_ext (by kernel_rfl) (by kernel_rfl) ?_
                repeat (first | go_big_quiet_skip | (go_big_quiet_want; go_big_quiet_op; first | go_big_quiet_on | (apply Exists.intro; refine ⟨fun _ => ?_, ?_⟩; ((first | (go_at_call 32; first | exact quiet_call (sPlcOk_c _ _) | exact quiet_call2 (sPlcOk_c _ _)) | (go_at_call 33; first | exact quiet_same (l1In_c _ _ _ _) | exact quiet_same2 (l1In_c _ _ _ _)) | (go_at_call 34; first | exact quiet_call (sPlcSide_c _ _ _ _) | exact quiet_call2 (sPlcSide_c _ _ _ _)) | (go_at_call 35; first | exact quiet_call (bareFFF_c _ _ _ _ _ _ _ _ _) | exact quiet_call2 (bareFFF_c _ _ _ _ _ _ _ _ _)))); (try rw [h1]); (try rw [h2]); (try rw [h3]); (try rw [h4]); (try rw [p1]); (try rw [p2]); (try rw [p3]); (try rw [p4]); (try rw [r1]); (try rw [r2]); (try rw [r3]); (try rw [r4]); (try rw [r5]); (try rw [r6]); (try rw [q3]); (try rw [q4]); (try rw [hp]); (try rw [hq]); go_big_quiet_on)))
                refine wpQuiet_nil ?_
                rintro _ ⟨tq, rfl⟩))
          go_ret
          refine ⟨ret_bool ?_, (by ((try simp only [ext_drew]); (try simp only [ext_ext]); repeat (first | exact Ext.refl _ | with_reducible apply Ext.add | with_reducible apply Ext.dr | apply Ext.alloc | apply Ext.ext | apply Ext.drew | refine Ext.trans ?_ (by assumption))))⟩
          simp [msgOk, msgKind, Bool.and_assoc, h1, h2, h3, r1, r2, r3, r4]
        | true =>
          go_enter Try.func7, Try.ntmps7
          try go_wp2_with (first
              | (go_at_call 32; refine (sPlcOk_c _ _).mono ?_; rintro e w' ⟨rfl, t, rfl⟩) | (go_at_call 33; refine (l1In_c _ _ _ _).mono ?_; rintro e w' ⟨rfl, rfl⟩) | (go_at_call 34; refine (sPlcSide_c _ _ _ _).mono ?_; rintro e w' ⟨rfl, t, rfl⟩) | (go_at_call 35; refine (bareFFF_c _ _ _ _ _ _ _ _ _).mono ?_; rintro e w' ⟨rfl, t, rfl⟩) | ((with_reducible refine load_gateG (T1 := 44) ?_); refine wpList_loadG (by rfl) _ _ rfl (w.heap.size + 1) #[.int .i64 6, .int .i64 to_, .int .i64 cell, .int .i64 side, .int .i64 n, .int .i64 o.who, .int .i64 o.seq, .int .i64 o.kind, .int .i64 o.to_, .int .i64 o.n, .int .i64 p.n, .int .i64 p.kind, .int .i64 p.wk.id, .int .i64 p.wk.at_, .int .i64 p.wk.coins, .int .i64 p.wk.seq, .int .i64 p.wk.last, .int .i64 p.coins, .int .i64 g.src, .int .i64 g.count, .int .i64 g.wk.id, .int .i64 g.wk.at_, .int .i64 g.wk.coins, .int .i64 g.wk.seq, .int .i64 g.wk.last] 44 _ rfl (by (repeat (first | with_reducible refine blk_ext ?_ | with_reducible apply blk_drew)); exact alloc_last (by (try simp [go_sem]) <;> (try simp [Xt.add]) <;> omega)) Try.underlying44 rfl (by kernel_rfl) ?_)
              | (
                with_reducible refine wp_region_mix (by kernel_rfl) (by decide +kernel) ?_
                repeat (first
                  | (refine mix_pure rfl ?_; (first | go_big_quiet_skip | (go_big_quiet_want; go_big_quiet_op; go_big_quiet_on)); refine wpQuiet_nil ?_)
                  | (refine mix_skip (by rfl) ?_; (try simp only [Act.put, List.setIfInBounds_toArray, List.set_cons_zero, List.set_cons_succ]))
                  | (refine mix_mk rfl (by rfl) (fun K hK => ?_); (first | (go_simp; first | (go_at_call 32; refine (sPlcOk_c _ _).mono ?_; rintro e w' ⟨rfl, t, rfl⟩) | (go_at_call 33; refine (l1In_c _ _ _ _).mono ?_; rintro e w' ⟨rfl, rfl⟩) | (go_at_call 34; refine (sPlcSide_c _ _ _ _).mono ?_; rintro e w' ⟨rfl, t, rfl⟩) | (go_at_call 35; refine (bareFFF_c _ _ _ _ _ _ _ _ _).mono ?_; rintro e w' ⟨rfl, t, rfl⟩) | ((with_reducible refine load_gateG (T1 := 44) ?_); refine wpList_loadG (by rfl) _ _ rfl (w.heap.size + 1) #[.int .i64 6, .int .i64 to_, .int .i64 cell, .int .i64 side, .int .i64 n, .int .i64 o.who, .int .i64 o.seq, .int .i64 o.kind, .int .i64 o.to_, .int .i64 o.n, .int .i64 p.n, .int .i64 p.kind, .int .i64 p.wk.id, .int .i64 p.wk.at_, .int .i64 p.wk.coins, .int .i64 p.wk.seq, .int .i64 p.wk.last, .int .i64 p.coins, .int .i64 g.src, .int .i64 g.count, .int .i64 g.wk.id, .int .i64 g.wk.at_, .int .i64 g.wk.coins, .int .i64 g.wk.seq, .int .i64 g.wk.last] 44 _ rfl (by (repeat (first | with_reducible refine blk_ext ?_ | with_reducible apply blk_drew)); exact alloc_last (by (try simp [go_sem]) <;> (try simp [Xt.add]) <;> omega)) Try.underlying44 rfl (by kernel_rfl) ?_) | skip)); (show K _ _); refine hK _ _ (show Ext _ _ from (by ((try simp only [ext_drew]); (try simp only [ext_ext]); repeat (first | exact Ext.refl _ | with_reducible apply Ext.add | with_reducible apply Ext.dr | apply Ext.alloc | apply Ext.ext | apply Ext.drew | refine Ext.trans ?_ (by assumption))))) ?_; clear hK K; (try simp only [Act.put, List.setIfInBounds_toArray, List.set_cons_zero, List.set_cons_succ])))
                refine mix_nil ?_)
              | (
                with_reducible refine wp_region_ext (by kernel_rfl) (by kernel_rfl) ?_
                repeat (first | go_big_quiet_skip | (go_big_quiet_want; go_big_quiet_op; first | go_big_quiet_on | (apply Exists.intro; refine ⟨fun _ => ?_, ?_⟩; ((first | (go_at_call 32; first | exact quiet_call (sPlcOk_c _ _) | exact quiet_call2 (sPlcOk_c _ _)) | (go_at_call 33; first | exact quiet_same (l1In_c _ _ _ _) | exact quiet_same2 (l1In_c _ _ _ _)) | (go_at_call 34; first | exact quiet_call (sPlcSide_c _ _ _ _) | exact quiet_call2 (sPlcSide_c _ _ _ _)) | (go_at_call 35; first | exact quiet_call (bareFFF_c _ _ _ _ _ _ _ _ _) | exact quiet_call2 (bareFFF_c _ _ _ _ _ _ _ _ _)))); (try rw [h1]); (try rw [h2]); (try rw [h3]); (try rw [h4]); (try rw [p1]); (try rw [p2]); (try rw [p3]); (try rw [p4]); (try rw [r1]); (try rw [r2]); (try rw [r3]); (try rw [r4]); (try rw [r5]); (try rw [r6]); (try rw [q3]); (try rw [q4]); (try rw [hp]); (try rw [hq]); go_big_quiet_on)))
                refine wpQuiet_nil ?_
                rintro _ ⟨tq, rfl⟩))
          go_ret
          refine ⟨ret_bool ?_, (by ((try simp only [ext_drew]); (try simp only [ext_ext]); repeat (first | exact Ext.refl _ | with_reducible apply Ext.add | with_reducible apply Ext.dr | apply Ext.alloc | apply Ext.ext | apply Ext.drew | refine Ext.trans ?_ (by assumption))))⟩
          simp [msgOk, msgKind, Bool.and_assoc, h1, h2, h3, r1, r2, r3, r4]
set_option maxRecDepth 100000 in
set_option maxHeartbeats 4000000 in
theorem sMsgOk_k7 (m : Mp) (s to_ cell side n : Int) (o : Ord) (p : Pcl) (g : Gst) (w : World) (h1 : plcOk m = true) (h2 : inB s 1 3 = true) (h3 : inB cell 0 (m.c - 1) = true) (s1 : 1 ≤ s) (s2 : s ≤ 3) (m1 : 2 ≤ m.c) (m2 : m.c ≤ 4) :
    Calls Try.prog 7 #[.agg #[.int .i64 m.c, .int .i64 m.w], .int .i64 s, .agg #[.int .i64 7, .int .i64 to_, .int .i64 cell, .int .i64 side, .int .i64 n, .int .i64 o.who, .int .i64 o.seq, .int .i64 o.kind, .int .i64 o.to_, .int .i64 o.n, .int .i64 p.n, .int .i64 p.kind, .int .i64 p.wk.id, .int .i64 p.wk.at_, .int .i64 p.wk.coins, .int .i64 p.wk.seq, .int .i64 p.wk.last, .int .i64 p.coins, .int .i64 g.src, .int .i64 g.count, .int .i64 g.wk.id, .int .i64 g.wk.at_, .int .i64 g.wk.coins, .int .i64 g.wk.seq, .int .i64 g.wk.last]] w fun e w' => e = .returned (.bool (msgOk m s ⟨7, to_, cell, side, n, o, p, g⟩)) ∧ Ext w w' := by
  cases r1 : inB side 0 1 with
  | false =>
    go_enter Try.func7, Try.ntmps7
    try go_wp2_with (first
        | (go_at_call 32; refine (sPlcOk_c _ _).mono ?_; rintro e w' ⟨rfl, t, rfl⟩) | (go_at_call 33; refine (l1In_c _ _ _ _).mono ?_; rintro e w' ⟨rfl, rfl⟩) | (go_at_call 34; refine (sPlcSide_c _ _ _ _).mono ?_; rintro e w' ⟨rfl, t, rfl⟩) | (go_at_call 38; refine (sGstOk_c _ _ _).mono ?_; rintro e w' ⟨rfl, t, rfl⟩) | (go_at_call 35; refine (bareFFT_c _ _ _ _ _ _ _ _ _).mono ?_; rintro e w' ⟨rfl, t, rfl⟩)
        | (
          with_reducible refine wp_region_mix (by kernel_rfl) (by decide +kernel) ?_
          repeat (first
            | (refine mix_pure rfl ?_; (first | go_big_quiet_skip | (go_big_quiet_want; go_big_quiet_op; go_big_quiet_on)); refine wpQuiet_nil ?_)
            | (refine mix_skip (by rfl) ?_; (try simp only [Act.put, List.setIfInBounds_toArray, List.set_cons_zero, List.set_cons_succ]))
            | (refine mix_mk rfl (by rfl) (fun K hK => ?_); (first | (go_simp; first | (go_at_call 32; refine (sPlcOk_c _ _).mono ?_; rintro e w' ⟨rfl, t, rfl⟩) | (go_at_call 33; refine (l1In_c _ _ _ _).mono ?_; rintro e w' ⟨rfl, rfl⟩) | (go_at_call 34; refine (sPlcSide_c _ _ _ _).mono ?_; rintro e w' ⟨rfl, t, rfl⟩) | (go_at_call 38; refine (sGstOk_c _ _ _).mono ?_; rintro e w' ⟨rfl, t, rfl⟩) | (go_at_call 35; refine (bareFFT_c _ _ _ _ _ _ _ _ _).mono ?_; rintro e w' ⟨rfl, t, rfl⟩) | skip)); (show K _ _); refine hK _ _ (show Ext _ _ from (by ((try simp only [ext_drew]); (try simp only [ext_ext]); repeat (first | exact Ext.refl _ | with_reducible apply Ext.add | with_reducible apply Ext.dr | apply Ext.alloc | apply Ext.ext | apply Ext.drew | refine Ext.trans ?_ (by assumption))))) ?_; clear hK K; (try simp only [Act.put, List.setIfInBounds_toArray, List.set_cons_zero, List.set_cons_succ])))
          refine mix_nil ?_)
        | (
          with_reducible refine wp_region_ext (by kernel_rfl) (by kernel_rfl) ?_
          repeat (first | go_big_quiet_skip | (go_big_quiet_want; go_big_quiet_op; first | go_big_quiet_on | (apply Exists.intro; refine ⟨fun _ => ?_, ?_⟩; ((first | (go_at_call 32; first | exact quiet_call (sPlcOk_c _ _) | exact quiet_call2 (sPlcOk_c _ _)) | (go_at_call 33; first | exact quiet_same (l1In_c _ _ _ _) | exact quiet_same2 (l1In_c _ _ _ _)) | (go_at_call 34; first | exact quiet_call (sPlcSide_c _ _ _ _) | exact quiet_call2 (sPlcSide_c _ _ _ _)) | (go_at_call 38; first | exact quiet_call (sGstOk_c _ _ _) | exact quiet_call2 (sGstOk_c _ _ _)) | (go_at_call 35; first | exact quiet_call (bareFFT_c _ _ _ _ _ _ _ _ _) | exact quiet_call2 (bareFFT_c _ _ _ _ _ _ _ _ _)))); (try rw [h1]); (try rw [h2]); (try rw [h3]); (try rw [h4]); (try rw [p1]); (try rw [p2]); (try rw [p3]); (try rw [p4]); (try rw [r1]); (try rw [r2]); (try rw [r3]); (try rw [r4]); (try rw [r5]); (try rw [r6]); (try rw [q3]); (try rw [q4]); (try rw [hp]); (try rw [hq]); go_big_quiet_on)))
          refine wpQuiet_nil ?_
          rintro _ ⟨tq, rfl⟩))
    go_ret
    refine ⟨ret_bool ?_, (by ((try simp only [ext_drew]); (try simp only [ext_ext]); repeat (first | exact Ext.refl _ | with_reducible apply Ext.add | with_reducible apply Ext.dr | apply Ext.alloc | apply Ext.ext | apply Ext.drew | refine Ext.trans ?_ (by assumption))))⟩
    have hs0 : plcSide m cell side = -1 := plcSide_no cell r1
    simp [msgOk, msgKind, Bool.and_assoc, h1, h2, h3, r1, hs0]
  | true =>
    cases r2 : inB to_ 0 (s - 1) with
    | false =>
      go_enter Try.func7, Try.ntmps7
      try go_wp2_with (first
          | (go_at_call 32; refine (sPlcOk_c _ _).mono ?_; rintro e w' ⟨rfl, t, rfl⟩) | (go_at_call 33; refine (l1In_c _ _ _ _).mono ?_; rintro e w' ⟨rfl, rfl⟩) | (go_at_call 34; refine (sPlcSide_c _ _ _ _).mono ?_; rintro e w' ⟨rfl, t, rfl⟩) | (go_at_call 38; refine (sGstOk_c _ _ _).mono ?_; rintro e w' ⟨rfl, t, rfl⟩) | (go_at_call 35; refine (bareFFT_c _ _ _ _ _ _ _ _ _).mono ?_; rintro e w' ⟨rfl, t, rfl⟩)
          | (
            with_reducible refine wp_region_mix (by kernel_rfl) (by decide +kernel) ?_
            repeat (first
              | (refine mix_pure rfl ?_; (first | go_big_quiet_skip | (go_big_quiet_want; go_big_quiet_op; go_big_quiet_on)); refine wpQuiet_nil ?_)
              | (refine mix_skip (by rfl) ?_; (try simp only [Act.put, List.setIfInBounds_toArray, List.set_cons_zero, List.set_cons_succ]))
              | (refine mix_mk rfl (by rfl) (fun K hK => ?_); (first | (go_simp; first | (go_at_call 32; refine (sPlcOk_c _ _).mono ?_; rintro e w' ⟨rfl, t, rfl⟩) | (go_at_call 33; refine (l1In_c _ _ _ _).mono ?_; rintro e w' ⟨rfl, rfl⟩) | (go_at_call 34; refine (sPlcSide_c _ _ _ _).mono ?_; rintro e w' ⟨rfl, t, rfl⟩) | (go_at_call 38; refine (sGstOk_c _ _ _).mono ?_; rintro e w' ⟨rfl, t, rfl⟩) | (go_at_call 35; refine (bareFFT_c _ _ _ _ _ _ _ _ _).mono ?_; rintro e w' ⟨rfl, t, rfl⟩) | skip)); (show K _ _); refine hK _ _ (show Ext _ _ from (by ((try simp only [ext_drew]); (try simp only [ext_ext]); repeat (first | exact Ext.refl _ | with_reducible apply Ext.add | with_reducible apply Ext.dr | apply Ext.alloc | apply Ext.ext | apply Ext.drew | refine Ext.trans ?_ (by assumption))))) ?_; clear hK K; (try simp only [Act.put, List.setIfInBounds_toArray, List.set_cons_zero, List.set_cons_succ])))
            refine mix_nil ?_)
          | (
            with_reducible refine wp_region_ext (by kernel_rfl) (by kernel_rfl) ?_
            repeat (first | go_big_quiet_skip | (go_big_quiet_want; go_big_quiet_op; first | go_big_quiet_on | (apply Exists.intro; refine ⟨fun _ => ?_, ?_⟩; ((first | (go_at_call 32; first | exact quiet_call (sPlcOk_c _ _) | exact quiet_call2 (sPlcOk_c _ _)) | (go_at_call 33; first | exact quiet_same (l1In_c _ _ _ _) | exact quiet_same2 (l1In_c _ _ _ _)) | (go_at_call 34; first | exact quiet_call (sPlcSide_c _ _ _ _) | exact quiet_call2 (sPlcSide_c _ _ _ _)) | (go_at_call 38; first | exact quiet_call (sGstOk_c _ _ _) | exact quiet_call2 (sGstOk_c _ _ _)) | (go_at_call 35; first | exact quiet_call (bareFFT_c _ _ _ _ _ _ _ _ _) | exact quiet_call2 (bareFFT_c _ _ _ _ _ _ _ _ _)))); (try rw [h1]); (try rw [h2]); (try rw [h3]); (try rw [h4]); (try rw [p1]); (try rw [p2]); (try rw [p3]); (try rw [p4]); (try rw [r1]); (try rw [r2]); (try rw [r3]); (try rw [r4]); (try rw [r5]); (try rw [r6]); (try rw [q3]); (try rw [q4]); (try rw [hp]); (try rw [hq]); go_big_quiet_on)))
            refine wpQuiet_nil ?_
            rintro _ ⟨tq, rfl⟩))
      go_ret
      refine ⟨ret_bool ?_, (by ((try simp only [ext_drew]); (try simp only [ext_ext]); repeat (first | exact Ext.refl _ | with_reducible apply Ext.add | with_reducible apply Ext.dr | apply Ext.alloc | apply Ext.ext | apply Ext.drew | refine Ext.trans ?_ (by assumption))))⟩
      simp [msgOk, msgKind, Bool.and_assoc, h1, h2, h3, r1, r2]
    | true =>
      cases r3 : (plcSide m cell side != -1) with
      | false =>
        go_enter Try.func7, Try.ntmps7
        try go_wp2_with (first
            | (go_at_call 32; refine (sPlcOk_c _ _).mono ?_; rintro e w' ⟨rfl, t, rfl⟩) | (go_at_call 33; refine (l1In_c _ _ _ _).mono ?_; rintro e w' ⟨rfl, rfl⟩) | (go_at_call 34; refine (sPlcSide_c _ _ _ _).mono ?_; rintro e w' ⟨rfl, t, rfl⟩) | (go_at_call 38; refine (sGstOk_c _ _ _).mono ?_; rintro e w' ⟨rfl, t, rfl⟩) | (go_at_call 35; refine (bareFFT_c _ _ _ _ _ _ _ _ _).mono ?_; rintro e w' ⟨rfl, t, rfl⟩)
            | (
              with_reducible refine wp_region_mix (by kernel_rfl) (by decide +kernel) ?_
              repeat (first
                | (refine mix_pure rfl ?_; (first | go_big_quiet_skip | (go_big_quiet_want; go_big_quiet_op; go_big_quiet_on)); refine wpQuiet_nil ?_)
                | (refine mix_skip (by rfl) ?_; (try simp only [Act.put, List.setIfInBounds_toArray, List.set_cons_zero, List.set_cons_succ]))
                | (refine mix_mk rfl (by rfl) (fun K hK => ?_); (first | (go_simp; first | (go_at_call 32; refine (sPlcOk_c _ _).mono ?_; rintro e w' ⟨rfl, t, rfl⟩) | (go_at_call 33; refine (l1In_c _ _ _ _).mono ?_; rintro e w' ⟨rfl, rfl⟩) | (go_at_call 34; refine (sPlcSide_c _ _ _ _).mono ?_; rintro e w' ⟨rfl, t, rfl⟩) | (go_at_call 38; refine (sGstOk_c _ _ _).mono ?_; rintro e w' ⟨rfl, t, rfl⟩) | (go_at_call 35; refine (bareFFT_c _ _ _ _ _ _ _ _ _).mono ?_; rintro e w' ⟨rfl, t, rfl⟩) | skip)); (show K _ _); refine hK _ _ (show Ext _ _ from (by ((try simp only [ext_drew]); (try simp only [ext_ext]); repeat (first | exact Ext.refl _ | with_reducible apply Ext.add | with_reducible apply Ext.dr | apply Ext.alloc | apply Ext.ext | apply Ext.drew | refine Ext.trans ?_ (by assumption))))) ?_; clear hK K; (try simp only [Act.put, List.setIfInBounds_toArray, List.set_cons_zero, List.set_cons_succ])))
              refine mix_nil ?_)
            | (
              with_reducible refine wp_region_ext (by kernel_rfl) (by kernel_rfl) ?_
              repeat (first | go_big_quiet_skip | (go_big_quiet_want; go_big_quiet_op; first | go_big_quiet_on | (apply Exists.intro; refine ⟨fun _ => ?_, ?_⟩; ((first | (go_at_call 32; first | exact quiet_call (sPlcOk_c _ _) | exact quiet_call2 (sPlcOk_c _ _)) | (go_at_call 33; first | exact quiet_same (l1In_c _ _ _ _) | exact quiet_same2 (l1In_c _ _ _ _)) | (go_at_call 34; first | exact quiet_call (sPlcSide_c _ _ _ _) | exact quiet_call2 (sPlcSide_c _ _ _ _)) | (go_at_call 38; first | exact quiet_call (sGstOk_c _ _ _) | exact quiet_call2 (sGstOk_c _ _ _)) | (go_at_call 35; first | exact quiet_call (bareFFT_c _ _ _ _ _ _ _ _ _) | exact quiet_call2 (bareFFT_c _ _ _ _ _ _ _ _ _)))); (try rw [h1]); (try rw [h2]); (try rw [h3]); (try rw [h4]); (try rw [p1]); (try rw [p2]); (try rw [p3]); (try rw [p4]); (try rw [r1]); (try rw [r2]); (try rw [r3]); (try rw [r4]); (try rw [r5]); (try rw [r6]); (try rw [q3]); (try rw [q4]); (try rw [hp]); (try rw [hq]); go_big_quiet_on)))
              refine wpQuiet_nil ?_
              rintro _ ⟨tq, rfl⟩))
        go_ret
        refine ⟨ret_bool ?_, (by ((try simp only [ext_drew]); (try simp only [ext_ext]); repeat (first | exact Ext.refl _ | with_reducible apply Ext.add | with_reducible apply Ext.dr | apply Ext.alloc | apply Ext.ext | apply Ext.drew | refine Ext.trans ?_ (by assumption))))⟩
        simp [msgOk, msgKind, Bool.and_assoc, h1, h2, h3, r1, r2, r3]
      | true =>
        cases r4 : (n == 0) with
        | false =>
          go_enter Try.func7, Try.ntmps7
          try go_wp2_with (first
              | (go_at_call 32; refine (sPlcOk_c _ _).mono ?_; rintro e w' ⟨rfl, t, rfl⟩) | (go_at_call 33; refine (l1In_c _ _ _ _).mono ?_; rintro e w' ⟨rfl, rfl⟩) | (go_at_call 34; refine (sPlcSide_c _ _ _ _).mono ?_; rintro e w' ⟨rfl, t, rfl⟩) | (go_at_call 38; refine (sGstOk_c _ _ _).mono ?_; rintro e w' ⟨rfl, t, rfl⟩) | (go_at_call 35; refine (bareFFT_c _ _ _ _ _ _ _ _ _).mono ?_; rintro e w' ⟨rfl, t, rfl⟩)
              | (
                with_reducible refine wp_region_mix (by kernel_rfl) (by decide +kernel) ?_
                repeat (first
                  | (refine mix_pure rfl ?_; (first | go_big_quiet_skip | (go_big_quiet_want; go_big_quiet_op; go_big_quiet_on)); refine wpQuiet_nil ?_)
                  | (refine mix_skip (by rfl) ?_; (try simp only [Act.put, List.setIfInBounds_toArray, List.set_cons_zero, List.set_cons_succ]))
                  | (refine mix_mk rfl (by rfl) (fun K hK => ?_); (first | (go_simp; first | (go_at_call 32; refine (sPlcOk_c _ _).mono ?_; rintro e w' ⟨rfl, t, rfl⟩) | (go_at_call 33; refine (l1In_c _ _ _ _).mono ?_; rintro e w' ⟨rfl, rfl⟩) | (go_at_call 34; refine (sPlcSide_c _ _ _ _).mono ?_; rintro e w' ⟨rfl, t, rfl⟩) | (go_at_call 38; refine (sGstOk_c _ _ _).mono ?_; rintro e w' ⟨rfl, t, rfl⟩) | (go_at_call 35; refine (bareFFT_c _ _ _ _ _ _ _ _ _).mono ?_; rintro e w' ⟨rfl, t, rfl⟩) | skip)); (show K _ _); refine hK _ _ (show Ext _ _ from (by ((try simp only [ext_drew]); (try simp only [ext_ext]); repeat (first | exact Ext.refl _ | with_reducible apply Ext.add | with_reducible apply Ext.dr | apply Ext.alloc | apply Ext.ext | apply Ext.drew | refine Ext.trans ?_ (by assumption))))) ?_; clear hK K; (try simp only [Act.put, List.setIfInBounds_toArray, List.set_cons_zero, List.set_cons_succ])))
                refine mix_nil ?_)
              | (
                with_reducible refine wp_region_ext (by kernel_rfl) (by kernel_rfl) ?_
                repeat (first | go_big_quiet_skip | (go_big_quiet_want; go_big_quiet_op; first | go_big_quiet_on | (apply Exists.intro; refine ⟨fun _ => ?_, ?_⟩; ((first | (go_at_call 32; first | exact quiet_call (sPlcOk_c _ _) | exact quiet_call2 (sPlcOk_c _ _)) | (go_at_call 33; first | exact quiet_same (l1In_c _ _ _ _) | exact quiet_same2 (l1In_c _ _ _ _)) | (go_at_call 34; first | exact quiet_call (sPlcSide_c _ _ _ _) | exact quiet_call2 (sPlcSide_c _ _ _ _)) | (go_at_call 38; first | exact quiet_call (sGstOk_c _ _ _) | exact quiet_call2 (sGstOk_c _ _ _)) | (go_at_call 35; first | exact quiet_call (bareFFT_c _ _ _ _ _ _ _ _ _) | exact quiet_call2 (bareFFT_c _ _ _ _ _ _ _ _ _)))); (try rw [h1]); (try rw [h2]); (try rw [h3]); (try rw [h4]); (try rw [p1]); (try rw [p2]); (try rw [p3]); (try rw [p4]); (try rw [r1]); (try rw [r2]); (try rw [r3]); (try rw [r4]); (try rw [r5]); (try rw [r6]); (try rw [q3]); (try rw [q4]); (try rw [hp]); (try rw [hq]); go_big_quiet_on)))
                refine wpQuiet_nil ?_
                rintro _ ⟨tq, rfl⟩))
          go_ret
          refine ⟨ret_bool ?_, (by ((try simp only [ext_drew]); (try simp only [ext_ext]); repeat (first | exact Ext.refl _ | with_reducible apply Ext.add | with_reducible apply Ext.dr | apply Ext.alloc | apply Ext.ext | apply Ext.drew | refine Ext.trans ?_ (by assumption))))⟩
          simp [msgOk, msgKind, Bool.and_assoc, h1, h2, h3, r1, r2, r3, r4]
        | true =>
          cases r5 : gstOk m g with
          | false =>
            go_enter Try.func7, Try.ntmps7
            try go_wp2_with (first
                | (go_at_call 32; refine (sPlcOk_c _ _).mono ?_; rintro e w' ⟨rfl, t, rfl⟩) | (go_at_call 33; refine (l1In_c _ _ _ _).mono ?_; rintro e w' ⟨rfl, rfl⟩) | (go_at_call 34; refine (sPlcSide_c _ _ _ _).mono ?_; rintro e w' ⟨rfl, t, rfl⟩) | (go_at_call 38; refine (sGstOk_c _ _ _).mono ?_; rintro e w' ⟨rfl, t, rfl⟩) | (go_at_call 35; refine (bareFFT_c _ _ _ _ _ _ _ _ _).mono ?_; rintro e w' ⟨rfl, t, rfl⟩)
                | (
                  with_reducible refine wp_region_mix (by kernel_rfl) (by decide +kernel) ?_
                  repeat (first
                    | (refine mix_pure rfl ?_; (first | go_big_quiet_skip | (go_big_quiet_want; go_big_quiet_op; go_big_quiet_on)); refine wpQuiet_nil ?_)
                    | (refine mix_skip (by rfl) ?_; (try simp only [Act.put, List.setIfInBounds_toArray, List.set_cons_zero, List.set_cons_succ]))
                    | (refine mix_mk rfl (by rfl) (fun K hK => ?_); (first | (go_simp; first | (go_at_call 32; refine (sPlcOk_c _ _).mono ?_; rintro e w' ⟨rfl, t, rfl⟩) | (go_at_call 33; refine (l1In_c _ _ _ _).mono ?_; rintro e w' ⟨rfl, rfl⟩) | (go_at_call 34; refine (sPlcSide_c _ _ _ _).mono ?_; rintro e w' ⟨rfl, t, rfl⟩) | (go_at_call 38; refine (sGstOk_c _ _ _).mono ?_; rintro e w' ⟨rfl, t, rfl⟩) | (go_at_call 35; refine (bareFFT_c _ _ _ _ _ _ _ _ _).mono ?_; rintro e w' ⟨rfl, t, rfl⟩) | skip)); (show K _ _); refine hK _ _ (show Ext _ _ from (by ((try simp only [ext_drew]); (try simp only [ext_ext]); repeat (first | exact Ext.refl _ | with_reducible apply Ext.add | with_reducible apply Ext.dr | apply Ext.alloc | apply Ext.ext | apply Ext.drew | refine Ext.trans ?_ (by assumption))))) ?_; clear hK K; (try simp only [Act.put, List.setIfInBounds_toArray, List.set_cons_zero, List.set_cons_succ])))
                  refine mix_nil ?_)
                | (
                  with_reducible refine wp_region_ext (by kernel_rfl) (by kernel_rfl) ?_
                  repeat (first | go_big_quiet_skip | (go_big_quiet_want; go_big_quiet_op; first | go_big_quiet_on | (apply Exists.intro; refine ⟨fun _ => ?_, ?_⟩; ((first | (go_at_call 32; first | exact quiet_call (sPlcOk_c _ _) | exact quiet_call2 (sPlcOk_c _ _)) | (go_at_call 33; first | exact quiet_same (l1In_c _ _ _ _) | exact quiet_same2 (l1In_c _ _ _ _)) | (go_at_call 34; first | exact quiet_call (sPlcSide_c _ _ _ _) | exact quiet_call2 (sPlcSide_c _ _ _ _)) | (go_at_call 38; first | exact quiet_call (sGstOk_c _ _ _) | exact quiet_call2 (sGstOk_c _ _ _)) | (go_at_call 35; first | exact quiet_call (bareFFT_c _ _ _ _ _ _ _ _ _) | exact quiet_call2 (bareFFT_c _ _ _ _ _ _ _ _ _)))); (try rw [h1]); (try rw [h2]); (try rw [h3]); (try rw [h4]); (try rw [p1]); (try rw [p2]); (try rw [p3]); (try rw [p4]); (try rw [r1]); (try rw [r2]); (try rw [r3]); (try rw [r4]); (try rw [r5]); (try rw [r6]); (try rw [q3]); (try rw [q4]); (try rw [hp]); (try rw [hq]); go_big_quiet_on)))
                  refine wpQuiet_nil ?_
                  rintro _ ⟨tq, rfl⟩))
            go_ret
            refine ⟨ret_bool ?_, (by ((try simp only [ext_drew]); (try simp only [ext_ext]); repeat (first | exact Ext.refl _ | with_reducible apply Ext.add | with_reducible apply Ext.dr | apply Ext.alloc | apply Ext.ext | apply Ext.drew | refine Ext.trans ?_ (by assumption))))⟩
            simp [msgOk, msgKind, Bool.and_assoc, h1, h2, h3, r1, r2, r3, r4, r5]
          | true =>
            cases r6 : (g.src == plcSide m cell side) with
            | false =>
              go_enter Try.func7, Try.ntmps7
              try go_wp2_with (first
                  | (go_at_call 32; refine (sPlcOk_c _ _).mono ?_; rintro e w' ⟨rfl, t, rfl⟩) | (go_at_call 33; refine (l1In_c _ _ _ _).mono ?_; rintro e w' ⟨rfl, rfl⟩) | (go_at_call 34; refine (sPlcSide_c _ _ _ _).mono ?_; rintro e w' ⟨rfl, t, rfl⟩) | (go_at_call 38; refine (sGstOk_c _ _ _).mono ?_; rintro e w' ⟨rfl, t, rfl⟩) | (go_at_call 35; refine (bareFFT_c _ _ _ _ _ _ _ _ _).mono ?_; rintro e w' ⟨rfl, t, rfl⟩)
                  | (
                    with_reducible refine wp_region_mix (by kernel_rfl) (by decide +kernel) ?_
                    repeat (first
                      | (refine mix_pure rfl ?_; (first | go_big_quiet_skip | (go_big_quiet_want; go_big_quiet_op; go_big_quiet_on)); refine wpQuiet_nil ?_)
                      | (refine mix_skip (by rfl) ?_; (try simp only [Act.put, List.setIfInBounds_toArray, List.set_cons_zero, List.set_cons_succ]))
                      | (refine mix_mk rfl (by rfl) (fun K hK => ?_); (first | (go_simp; first | (go_at_call 32; refine (sPlcOk_c _ _).mono ?_; rintro e w' ⟨rfl, t, rfl⟩) | (go_at_call 33; refine (l1In_c _ _ _ _).mono ?_; rintro e w' ⟨rfl, rfl⟩) | (go_at_call 34; refine (sPlcSide_c _ _ _ _).mono ?_; rintro e w' ⟨rfl, t, rfl⟩) | (go_at_call 38; refine (sGstOk_c _ _ _).mono ?_; rintro e w' ⟨rfl, t, rfl⟩) | (go_at_call 35; refine (bareFFT_c _ _ _ _ _ _ _ _ _).mono ?_; rintro e w' ⟨rfl, t, rfl⟩) | skip)); (show K _ _); refine hK _ _ (show Ext _ _ from (by ((try simp only [ext_drew]); (try simp only [ext_ext]); repeat (first | exact Ext.refl _ | with_reducible apply Ext.add | with_reducible apply Ext.dr | apply Ext.alloc | apply Ext.ext | apply Ext.drew | refine Ext.trans ?_ (by assumption))))) ?_; clear hK K; (try simp only [Act.put, List.setIfInBounds_toArray, List.set_cons_zero, List.set_cons_succ])))
                    refine mix_nil ?_)
                  | (
                    with_reducible refine wp_region_ext (by kernel_rfl) (by kernel_rfl) ?_
                    repeat (first | go_big_quiet_skip | (go_big_quiet_want; go_big_quiet_op; first | go_big_quiet_on | (apply Exists.intro; refine ⟨fun _ => ?_, ?_⟩; ((first | (go_at_call 32; first | exact quiet_call (sPlcOk_c _ _) | exact quiet_call2 (sPlcOk_c _ _)) | (go_at_call 33; first | exact quiet_same (l1In_c _ _ _ _) | exact quiet_same2 (l1In_c _ _ _ _)) | (go_at_call 34; first | exact quiet_call (sPlcSide_c _ _ _ _) | exact quiet_call2 (sPlcSide_c _ _ _ _)) | (go_at_call 38; first | exact quiet_call (sGstOk_c _ _ _) | exact quiet_call2 (sGstOk_c _ _ _)) | (go_at_call 35; first | exact quiet_call (bareFFT_c _ _ _ _ _ _ _ _ _) | exact quiet_call2 (bareFFT_c _ _ _ _ _ _ _ _ _)))); (try rw [h1]); (try rw [h2]); (try rw [h3]); (try rw [h4]); (try rw [p1]); (try rw [p2]); (try rw [p3]); (try rw [p4]); (try rw [r1]); (try rw [r2]); (try rw [r3]); (try rw [r4]); (try rw [r5]); (try rw [r6]); (try rw [q3]); (try rw [q4]); (try rw [hp]); (try rw [hq]); go_big_quiet_on)))
                    refine wpQuiet_nil ?_
                    rintro _ ⟨tq, rfl⟩))
              go_ret
              refine ⟨ret_bool ?_, (by ((try simp only [ext_drew]); (try simp only [ext_ext]); repeat (first | exact Ext.refl _ | with_reducible apply Ext.add | with_reducible apply Ext.dr | apply Ext.alloc | apply Ext.ext | apply Ext.drew | refine Ext.trans ?_ (by assumption))))⟩
              simp [msgOk, msgKind, Bool.and_assoc, h1, h2, h3, r1, r2, r3, r4, r5, r6]
            | true =>
              go_enter Try.func7, Try.ntmps7
              go_wp2_with (first | (go_at_call 32; refine (sPlcOk_c _ _).mono ?_; rintro e w' ⟨rfl, t, rfl⟩) | (go_at_call 33; refine (l1In_c _ _ _ _).mono ?_; rintro e w' ⟨rfl, rfl⟩) | (go_at_call 34; refine (sPlcSide_c _ _ _ _).mono ?_; rintro e w' ⟨rfl, t, rfl⟩) | (go_at_call 38; refine (sGstOk_c _ _ _).mono ?_; rintro e w' ⟨rfl, t, rfl⟩) | (go_at_call 35; refine (bareFFT_c _ _ _ _ _ _ _ _ _).mono ?_; rintro e w' ⟨rfl, t, rfl⟩))
              with_reducible refine wp_region_mixT (by kernel_rfl) (by decide +kernel) ?_
              repeat (first
                | (((with_reducible refine mixload_gate (T1 := 44) ?_); refine mix_loadW (by rfl) _ _ rfl (w.heap.size + 1) #[.int .i64 7, .int .i64 to_, .int .i64 cell, .int .i64 side, .int .i64 n, .int .i64 o.who, .int .i64 o.seq, .int .i64 o.kind, .int .i64 o.to_, .int .i64 o.n, .int .i64 p.n, .int .i64 p.kind, .int .i64 p.wk.id, .int .i64 p.wk.at_, .int .i64 p.wk.coins, .int .i64 p.wk.seq, .int .i64 p.wk.last, .int .i64 p.coins, .int .i64 g.src, .int .i64 g.count, .int .i64 g.wk.id, .int .i64 g.wk.at_, .int .i64 g.wk.coins, .int .i64 g.wk.seq, .int .i64 g.wk.last] 44 _ rfl (by rintro w9 ⟨t9, rfl⟩; (repeat (first | with_reducible refine blk_ext ?_ | with_reducible apply blk_drew)); exact alloc_last (by (try simp [go_sem]) <;> (try simp [Xt.add]) <;> omega)) Try.underlying44 rfl (by kernel_rfl) ?_); (try simp only [Act.put, List.setIfInBounds_toArray, List.set_cons_zero, List.set_cons_succ]))
                | (refine mix_pure rfl ?_; (first | go_big_quiet_skip | (go_big_quiet_want; go_big_quiet_op; go_big_quiet_on)); refine wpQuiet_nil ?_)
                | (refine mix_skip (by rfl) ?_; (try simp only [Act.put, List.setIfInBounds_toArray, List.set_cons_zero, List.set_cons_succ]))
                | (refine mix_mk rfl (by rfl) (fun K hK => ?_); (first | (go_simp; first | (go_at_call 32; refine (sPlcOk_c _ _).mono ?_; rintro e w' ⟨rfl, t, rfl⟩) | (go_at_call 33; refine (l1In_c _ _ _ _).mono ?_; rintro e w' ⟨rfl, rfl⟩) | (go_at_call 34; refine (sPlcSide_c _ _ _ _).mono ?_; rintro e w' ⟨rfl, t, rfl⟩) | (go_at_call 38; refine (sGstOk_c _ _ _).mono ?_; rintro e w' ⟨rfl, t, rfl⟩) | (go_at_call 35; refine (bareFFT_c _ _ _ _ _ _ _ _ _).mono ?_; rintro e w' ⟨rfl, t, rfl⟩) | skip)); (show K _ _); refine hK _ _ (show Ext _ _ from (by ((try simp only [ext_drew]); (try simp only [ext_ext]); repeat (first | exact Ext.refl _ | with_reducible apply Ext.add | with_reducible apply Ext.dr | apply Ext.alloc | apply Ext.ext | apply Ext.drew | refine Ext.trans ?_ (by assumption))))) ?_; clear hK K; (try simp only [Act.put, List.setIfInBounds_toArray, List.set_cons_zero, List.set_cons_succ])))
              refine mix_nil ?_
              go_wp2_with (fail)
              go_ret
              refine ⟨ret_bool ?_, (by ((try simp only [ext_drew]); (try simp only [ext_ext]); repeat (first | exact Ext.refl _ | with_reducible apply Ext.add | with_reducible apply Ext.dr | apply Ext.alloc | apply Ext.ext | apply Ext.drew | refine Ext.trans ?_ (by assumption))))⟩
              simp [msgOk, msgKind, Bool.and_assoc, h1, h2, h3, r1, r2, r3, r4, r5, r6]
set_option maxRecDepth 100000 in
set_option maxHeartbeats 4000000 in
theorem sMsgOk_k0 (m : Mp) (s to_ cell side n : Int) (o : Ord) (p : Pcl) (g : Gst) (w : World) (k : Int) (hk1 : (k == 1) = false) (hk2 : (k == 2) = false) (hk3 : (k == 3) = false) (hk4 : (k == 4) = false) (hk5 : (k == 5) = false) (hk6 : (k == 6) = false) (hk7 : (k == 7) = false) (h1 : plcOk m = true) (h2 : inB s 1 3 = true) (h3 : inB cell 0 (m.c - 1) = true) (s1 : 1 ≤ s) (s2 : s ≤ 3) (m1 : 2 ≤ m.c) (m2 : m.c ≤ 4) :
    Calls Try.prog 7 #[.agg #[.int .i64 m.c, .int .i64 m.w], .int .i64 s, .agg #[.int .i64 k, .int .i64 to_, .int .i64 cell, .int .i64 side, .int .i64 n, .int .i64 o.who, .int .i64 o.seq, .int .i64 o.kind, .int .i64 o.to_, .int .i64 o.n, .int .i64 p.n, .int .i64 p.kind, .int .i64 p.wk.id, .int .i64 p.wk.at_, .int .i64 p.wk.coins, .int .i64 p.wk.seq, .int .i64 p.wk.last, .int .i64 p.coins, .int .i64 g.src, .int .i64 g.count, .int .i64 g.wk.id, .int .i64 g.wk.at_, .int .i64 g.wk.coins, .int .i64 g.wk.seq, .int .i64 g.wk.last]] w fun e w' => e = .returned (.bool (msgOk m s ⟨k, to_, cell, side, n, o, p, g⟩)) ∧ Ext w w' := by
  have n1 : k ≠ 1 ∧ k ≠ 2 ∧ k ≠ 3 ∧ k ≠ 4 ∧ k ≠ 5 ∧ k ≠ 6 ∧ k ≠ 7 := ⟨by simpa using hk1, by simpa using hk2, by simpa using hk3, by simpa using hk4, by simpa using hk5, by simpa using hk6, by simpa using hk7⟩
  have HK := hid n1
  clear n1
  cases r1 : inB side 0 1 with
  | false =>
    go_enter Try.func7, Try.ntmps7
    try go_wp2_with (first
        | (go_at_call 32; refine (sPlcOk_c _ _).mono ?_; rintro e w' ⟨rfl, t, rfl⟩) | (go_at_call 33; refine (l1In_c _ _ _ _).mono ?_; rintro e w' ⟨rfl, rfl⟩) | (go_at_call 34; refine (sPlcSide_c _ _ _ _).mono ?_; rintro e w' ⟨rfl, t, rfl⟩) | ((with_reducible refine load_gateG (T1 := 44) ?_); refine wpList_loadG (by rfl) _ _ rfl (w.heap.size + 1) #[.int .i64 k, .int .i64 to_, .int .i64 cell, .int .i64 side, .int .i64 n, .int .i64 o.who, .int .i64 o.seq, .int .i64 o.kind, .int .i64 o.to_, .int .i64 o.n, .int .i64 p.n, .int .i64 p.kind, .int .i64 p.wk.id, .int .i64 p.wk.at_, .int .i64 p.wk.coins, .int .i64 p.wk.seq, .int .i64 p.wk.last, .int .i64 p.coins, .int .i64 g.src, .int .i64 g.count, .int .i64 g.wk.id, .int .i64 g.wk.at_, .int .i64 g.wk.coins, .int .i64 g.wk.seq, .int .i64 g.wk.last] 44 _ rfl (by (repeat (first | with_reducible refine blk_ext ?_ | with_reducible apply blk_drew)); exact alloc_last (by (try simp [go_sem]) <;> (try simp [Xt.add]) <;> omega)) Try.underlying44 rfl (by kernel_rfl) ?_)
        | (
          with_reducible refine wp_region_mix (by kernel_rfl) (by decide +kernel) ?_
          repeat (first
            | (refine mix_pure rfl ?_; (first | go_big_quiet_skip | (go_big_quiet_want; go_big_quiet_op; go_big_quiet_on)); refine wpQuiet_nil ?_)
            | (refine mix_skip (by rfl) ?_; (try simp only [Act.put, List.setIfInBounds_toArray, List.set_cons_zero, List.set_cons_succ]))
            | (refine mix_mk rfl (by rfl) (fun K hK => ?_); (first | (go_simp; first | (go_at_call 32; refine (sPlcOk_c _ _).mono ?_; rintro e w' ⟨rfl, t, rfl⟩) | (go_at_call 33; refine (l1In_c _ _ _ _).mono ?_; rintro e w' ⟨rfl, rfl⟩) | (go_at_call 34; refine (sPlcSide_c _ _ _ _).mono ?_; rintro e w' ⟨rfl, t, rfl⟩) | ((with_reducible refine load_gateG (T1 := 44) ?_); refine wpList_loadG (by rfl) _ _ rfl (w.heap.size + 1) #[.int .i64 k, .int .i64 to_, .int .i64 cell, .int .i64 side, .int .i64 n, .int .i64 o.who, .int .i64 o.seq, .int .i64 o.kind, .int .i64 o.to_, .int .i64 o.n, .int .i64 p.n, .int .i64 p.kind, .int .i64 p.wk.id, .int .i64 p.wk.at_, .int .i64 p.wk.coins, .int .i64 p.wk.seq, .int .i64 p.wk.last, .int .i64 p.coins, .int .i64 g.src, .int .i64 g.count, .int .i64 g.wk.id, .int .i64 g.wk.at_, .int .i64 g.wk.coins, .int .i64 g.wk.seq, .int .i64 g.wk.last] 44 _ rfl (by (repeat (first | with_reducible refine blk_ext ?_ | with_reducible apply blk_drew)); exact alloc_last (by (try simp [go_sem]) <;> (try simp [Xt.add]) <;> omega)) Try.underlying44 rfl (by kernel_rfl) ?_) | skip)); (show K _ _); refine hK _ _ (show Ext _ _ from (by ((try simp only [ext_drew]); (try simp only [ext_ext]); repeat (first | exact Ext.refl _ | with_reducible apply Ext.add | with_reducible apply Ext.dr | apply Ext.alloc | apply Ext.ext | apply Ext.drew | refine Ext.trans ?_ (by assumption))))) ?_; clear hK K; (try simp only [Act.put, List.setIfInBounds_toArray, List.set_cons_zero, List.set_cons_succ])))
          refine mix_nil ?_)
        | (
          with_reducible refine wp_region_ext (by kernel_rfl) (by kernel_rfl) ?_
          repeat (first | go_big_quiet_skip | (go_big_quiet_want; go_big_quiet_op; first | go_big_quiet_on | (apply Exists.intro; refine ⟨fun _ => ?_, ?_⟩; ((first | (go_at_call 32; first | exact quiet_call (sPlcOk_c _ _) | exact quiet_call2 (sPlcOk_c _ _)) | (go_at_call 33; first | exact quiet_same (l1In_c _ _ _ _) | exact quiet_same2 (l1In_c _ _ _ _)) | (go_at_call 34; first | exact quiet_call (sPlcSide_c _ _ _ _) | exact quiet_call2 (sPlcSide_c _ _ _ _)))); (try rw [h1]); (try rw [h2]); (try rw [h3]); (try rw [h4]); (try rw [p1]); (try rw [p2]); (try rw [p3]); (try rw [p4]); (try rw [r1]); (try rw [r2]); (try rw [r3]); (try rw [r4]); (try rw [r5]); (try rw [r6]); (try rw [q3]); (try rw [q4]); (try rw [hp]); (try rw [hq]); go_big_quiet_on)))
          refine wpQuiet_nil ?_
          rintro _ ⟨tq, rfl⟩))
    go_ret
    refine ⟨ret_bool ?_, (by ((try simp only [ext_drew]); (try simp only [ext_ext]); repeat (first | exact Ext.refl _ | with_reducible apply Ext.add | with_reducible apply Ext.dr | apply Ext.alloc | apply Ext.ext | apply Ext.drew | refine Ext.trans ?_ (by assumption))))⟩
    have HKz := HK.out
    simp [msgOk, msgKind, Bool.and_assoc, h1, h2, h3, r1, HKz.1, HKz.2.1, HKz.2.2.1, HKz.2.2.2.1, HKz.2.2.2.2.1, HKz.2.2.2.2.2.1, HKz.2.2.2.2.2.2]
  | true =>
    cases r2 : inB to_ 0 (s - 1) with
    | false =>
      go_enter Try.func7, Try.ntmps7
      try go_wp2_with (first
          | (go_at_call 32; refine (sPlcOk_c _ _).mono ?_; rintro e w' ⟨rfl, t, rfl⟩) | (go_at_call 33; refine (l1In_c _ _ _ _).mono ?_; rintro e w' ⟨rfl, rfl⟩) | (go_at_call 34; refine (sPlcSide_c _ _ _ _).mono ?_; rintro e w' ⟨rfl, t, rfl⟩) | ((with_reducible refine load_gateG (T1 := 44) ?_); refine wpList_loadG (by rfl) _ _ rfl (w.heap.size + 1) #[.int .i64 k, .int .i64 to_, .int .i64 cell, .int .i64 side, .int .i64 n, .int .i64 o.who, .int .i64 o.seq, .int .i64 o.kind, .int .i64 o.to_, .int .i64 o.n, .int .i64 p.n, .int .i64 p.kind, .int .i64 p.wk.id, .int .i64 p.wk.at_, .int .i64 p.wk.coins, .int .i64 p.wk.seq, .int .i64 p.wk.last, .int .i64 p.coins, .int .i64 g.src, .int .i64 g.count, .int .i64 g.wk.id, .int .i64 g.wk.at_, .int .i64 g.wk.coins, .int .i64 g.wk.seq, .int .i64 g.wk.last] 44 _ rfl (by (repeat (first | with_reducible refine blk_ext ?_ | with_reducible apply blk_drew)); exact alloc_last (by (try simp [go_sem]) <;> (try simp [Xt.add]) <;> omega)) Try.underlying44 rfl (by kernel_rfl) ?_)
          | (
            with_reducible refine wp_region_mix (by kernel_rfl) (by decide +kernel) ?_
            repeat (first
              | (refine mix_pure rfl ?_; (first | go_big_quiet_skip | (go_big_quiet_want; go_big_quiet_op; go_big_quiet_on)); refine wpQuiet_nil ?_)
              | (refine mix_skip (by rfl) ?_; (try simp only [Act.put, List.setIfInBounds_toArray, List.set_cons_zero, List.set_cons_succ]))
              | (refine mix_mk rfl (by rfl) (fun K hK => ?_); (first | (go_simp; first | (go_at_call 32; refine (sPlcOk_c _ _).mono ?_; rintro e w' ⟨rfl, t, rfl⟩) | (go_at_call 33; refine (l1In_c _ _ _ _).mono ?_; rintro e w' ⟨rfl, rfl⟩) | (go_at_call 34; refine (sPlcSide_c _ _ _ _).mono ?_; rintro e w' ⟨rfl, t, rfl⟩) | ((with_reducible refine load_gateG (T1 := 44) ?_); refine wpList_loadG (by rfl) _ _ rfl (w.heap.size + 1) #[.int .i64 k, .int .i64 to_, .int .i64 cell, .int .i64 side, .int .i64 n, .int .i64 o.who, .int .i64 o.seq, .int .i64 o.kind, .int .i64 o.to_, .int .i64 o.n, .int .i64 p.n, .int .i64 p.kind, .int .i64 p.wk.id, .int .i64 p.wk.at_, .int .i64 p.wk.coins, .int .i64 p.wk.seq, .int .i64 p.wk.last, .int .i64 p.coins, .int .i64 g.src, .int .i64 g.count, .int .i64 g.wk.id, .int .i64 g.wk.at_, .int .i64 g.wk.coins, .int .i64 g.wk.seq, .int .i64 g.wk.last] 44 _ rfl (by (repeat (first | with_reducible refine blk_ext ?_ | with_reducible apply blk_drew)); exact alloc_last (by (try simp [go_sem]) <;> (try simp [Xt.add]) <;> omega)) Try.underlying44 rfl (by kernel_rfl) ?_) | skip)); (show K _ _); refine hK _ _ (show Ext _ _ from (by ((try simp only [ext_drew]); (try simp only [ext_ext]); repeat (first | exact Ext.refl _ | with_reducible apply Ext.add | with_reducible apply Ext.dr | apply Ext.alloc | apply Ext.ext | apply Ext.drew | refine Ext.trans ?_ (by assumption))))) ?_; clear hK K; (try simp only [Act.put, List.setIfInBounds_toArray, List.set_cons_zero, List.set_cons_succ])))
            refine mix_nil ?_)
          | (
            with_reducible refine wp_region_ext (by kernel_rfl) (by kernel_rfl) ?_
            repeat (first | go_big_quiet_skip | (go_big_quiet_want; go_big_quiet_op; first | go_big_quiet_on | (apply Exists.intro; refine ⟨fun _ => ?_, ?_⟩; ((first | (go_at_call 32; first | exact quiet_call (sPlcOk_c _ _) | exact quiet_call2 (sPlcOk_c _ _)) | (go_at_call 33; first | exact quiet_same (l1In_c _ _ _ _) | exact quiet_same2 (l1In_c _ _ _ _)) | (go_at_call 34; first | exact quiet_call (sPlcSide_c _ _ _ _) | exact quiet_call2 (sPlcSide_c _ _ _ _)))); (try rw [h1]); (try rw [h2]); (try rw [h3]); (try rw [h4]); (try rw [p1]); (try rw [p2]); (try rw [p3]); (try rw [p4]); (try rw [r1]); (try rw [r2]); (try rw [r3]); (try rw [r4]); (try rw [r5]); (try rw [r6]); (try rw [q3]); (try rw [q4]); (try rw [hp]); (try rw [hq]); go_big_quiet_on)))
            refine wpQuiet_nil ?_
            rintro _ ⟨tq, rfl⟩))
      go_ret
      refine ⟨ret_bool ?_, (by ((try simp only [ext_drew]); (try simp only [ext_ext]); repeat (first | exact Ext.refl _ | with_reducible apply Ext.add | with_reducible apply Ext.dr | apply Ext.alloc | apply Ext.ext | apply Ext.drew | refine Ext.trans ?_ (by assumption))))⟩
      have HKz := HK.out
      simp [msgOk, msgKind, Bool.and_assoc, h1, h2, h3, r1, r2, HKz.1, HKz.2.1, HKz.2.2.1, HKz.2.2.2.1, HKz.2.2.2.2.1, HKz.2.2.2.2.2.1, HKz.2.2.2.2.2.2]
    | true =>
      go_enter Try.func7, Try.ntmps7
      try go_wp2_with (first
          | (go_at_call 32; refine (sPlcOk_c _ _).mono ?_; rintro e w' ⟨rfl, t, rfl⟩) | (go_at_call 33; refine (l1In_c _ _ _ _).mono ?_; rintro e w' ⟨rfl, rfl⟩) | (go_at_call 34; refine (sPlcSide_c _ _ _ _).mono ?_; rintro e w' ⟨rfl, t, rfl⟩) | ((with_reducible refine load_gateG (T1 := 44) ?_); refine wpList_loadG (by rfl) _ _ rfl (w.heap.size + 1) #[.int .i64 k, .int .i64 to_, .int .i64 cell, .int .i64 side, .int .i64 n, .int .i64 o.who, .int .i64 o.seq, .int .i64 o.kind, .int .i64 o.to_, .int .i64 o.n, .int .i64 p.n, .int .i64 p.kind, .int .i64 p.wk.id, .int .i64 p.wk.at_, .int .i64 p.wk.coins, .int .i64 p.wk.seq, .int .i64 p.wk.last, .int .i64 p.coins, .int .i64 g.src, .int .i64 g.count, .int .i64 g.wk.id, .int .i64 g.wk.at_, .int .i64 g.wk.coins, .int .i64 g.wk.seq, .int .i64 g.wk.last] 44 _ rfl (by (repeat (first | with_reducible refine blk_ext ?_ | with_reducible apply blk_drew)); exact alloc_last (by (try simp [go_sem]) <;> (try simp [Xt.add]) <;> omega)) Try.underlying44 rfl (by kernel_rfl) ?_)
          | (
            with_reducible refine wp_region_mix (by kernel_rfl) (by decide +kernel) ?_
            repeat (first
              | (refine mix_pure rfl ?_; (first | go_big_quiet_skip | (go_big_quiet_want; go_big_quiet_op; go_big_quiet_on)); refine wpQuiet_nil ?_)
              | (refine mix_skip (by rfl) ?_; (try simp only [Act.put, List.setIfInBounds_toArray, List.set_cons_zero, List.set_cons_succ]))
              | (refine mix_mk rfl (by rfl) (fun K hK => ?_); (first | (go_simp; first | (go_at_call 32; refine (sPlcOk_c _ _).mono ?_; rintro e w' ⟨rfl, t, rfl⟩) | (go_at_call 33; refine (l1In_c _ _ _ _).mono ?_; rintro e w' ⟨rfl, rfl⟩) | (go_at_call 34; refine (sPlcSide_c _ _ _ _).mono ?_; rintro e w' ⟨rfl, t, rfl⟩) | ((with_reducible refine load_gateG (T1 := 44) ?_); refine wpList_loadG (by rfl) _ _ rfl (w.heap.size + 1) #[.int .i64 k, .int .i64 to_, .int .i64 cell, .int .i64 side, .int .i64 n, .int .i64 o.who, .int .i64 o.seq, .int .i64 o.kind, .int .i64 o.to_, .int .i64 o.n, .int .i64 p.n, .int .i64 p.kind, .int .i64 p.wk.id, .int .i64 p.wk.at_, .int .i64 p.wk.coins, .int .i64 p.wk.seq, .int .i64 p.wk.last, .int .i64 p.coins, .int .i64 g.src, .int .i64 g.count, .int .i64 g.wk.id, .int .i64 g.wk.at_, .int .i64 g.wk.coins, .int .i64 g.wk.seq, .int .i64 g.wk.last] 44 _ rfl (by (repeat (first | with_reducible refine blk_ext ?_ | with_reducible apply blk_drew)); exact alloc_last (by (try simp [go_sem]) <;> (try simp [Xt.add]) <;> omega)) Try.underlying44 rfl (by kernel_rfl) ?_) | skip)); (show K _ _); refine hK _ _ (show Ext _ _ from (by ((try simp only [ext_drew]); (try simp only [ext_ext]); repeat (first | exact Ext.refl _ | with_reducible apply Ext.add | with_reducible apply Ext.dr | apply Ext.alloc | apply Ext.ext | apply Ext.drew | refine Ext.trans ?_ (by assumption))))) ?_; clear hK K; (try simp only [Act.put, List.setIfInBounds_toArray, List.set_cons_zero, List.set_cons_succ])))
            refine mix_nil ?_)
          | (
            with_reducible refine wp_region_ext (by kernel_rfl) (by kernel_rfl) ?_
            repeat (first | go_big_quiet_skip | (go_big_quiet_want; go_big_quiet_op; first | go_big_quiet_on | (apply Exists.intro; refine ⟨fun _ => ?_, ?_⟩; ((first | (go_at_call 32; first | exact quiet_call (sPlcOk_c _ _) | exact quiet_call2 (sPlcOk_c _ _)) | (go_at_call 33; first | exact quiet_same (l1In_c _ _ _ _) | exact quiet_same2 (l1In_c _ _ _ _)) | (go_at_call 34; first | exact quiet_call (sPlcSide_c _ _ _ _) | exact quiet_call2 (sPlcSide_c _ _ _ _)))); (try rw [h1]); (try rw [h2]); (try rw [h3]); (try rw [h4]); (try rw [p1]); (try rw [p2]); (try rw [p3]); (try rw [p4]); (try rw [r1]); (try rw [r2]); (try rw [r3]); (try rw [r4]); (try rw [r5]); (try rw [r6]); (try rw [q3]); (try rw [q4]); (try rw [hp]); (try rw [hq]); go_big_quiet_on)))
            refine wpQuiet_nil ?_
            rintro _ ⟨tq, rfl⟩))
      go_ret
      refine ⟨ret_bool ?_, (by ((try simp only [ext_drew]); (try simp only [ext_ext]); repeat (first | exact Ext.refl _ | with_reducible apply Ext.add | with_reducible apply Ext.dr | apply Ext.alloc | apply Ext.ext | apply Ext.drew | refine Ext.trans ?_ (by assumption))))⟩
      have HKz := HK.out
      simp [msgOk, msgKind, Bool.and_assoc, h1, h2, h3, r1, r2, HKz.1, HKz.2.1, HKz.2.2.1, HKz.2.2.2.1, HKz.2.2.2.2.1, HKz.2.2.2.2.2.1, HKz.2.2.2.2.2.2]
end Go.Proofs.Ytnfodkhfoegnaaa

namespace Go.Proofs.Ytnfodkhfoegnaaa
open Go.RowKit
set_option linter.unusedSimpArgs false
set_option linter.unusedVariables false

set_option maxRecDepth 100000 in
set_option maxHeartbeats 4000000 in
theorem sMsgOk_bad (m : Mp) (s : Int) (x : Msg) (w : World) (h : plcOk m = false ∨ inB s 1 3 = false ∨ inB x.cell 0 (m.c - 1) = false) :
    Calls Try.prog 7 #[.agg #[.int .i64 m.c, .int .i64 m.w], .int .i64 s, .agg #[.int .i64 x.kind, .int .i64 x.to_, .int .i64 x.cell, .int .i64 x.side, .int .i64 x.n, .int .i64 x.ord.who, .int .i64 x.ord.seq, .int .i64 x.ord.kind, .int .i64 x.ord.to_, .int .i64 x.ord.n, .int .i64 x.pcl.n, .int .i64 x.pcl.kind, .int .i64 x.pcl.wk.id, .int .i64 x.pcl.wk.at_, .int .i64 x.pcl.wk.coins, .int .i64 x.pcl.wk.seq, .int .i64 x.pcl.wk.last, .int .i64 x.pcl.coins, .int .i64 x.gst.src, .int .i64 x.gst.count, .int .i64 x.gst.wk.id, .int .i64 x.gst.wk.at_, .int .i64 x.gst.wk.coins, .int .i64 x.gst.wk.seq, .int .i64 x.gst.wk.last]] w fun e w' => e = .returned (.bool (msgOk m s x)) ∧ Ext w w' := by
  have E := hid (show msgOk m s x = false by rcases h with h | h | h <;> simp [msgOk, h])
  cases h1 : plcOk m with
  | false =>
    clear h
    go_enter Try.func7, Try.ntmps7
    go_wp2_with (first | (go_at_call 32; refine (sPlcOk_c _ _).mono ?_; rintro e w' ⟨rfl, t, rfl⟩) | (go_at_call 33; refine (l1In_c _ _ _ _).mono ?_; rintro e w' ⟨rfl, rfl⟩))
    go_ret
    exact ⟨ret_bool (by rw [E.out]), (by ((try simp only [ext_drew]); (try simp only [ext_ext]); repeat (first | exact Ext.refl _ | with_reducible apply Ext.add | with_reducible apply Ext.dr | apply Ext.alloc | apply Ext.ext | apply Ext.drew | refine Ext.trans ?_ (by assumption))))⟩
  | true =>
    cases h2 : inB s 1 3 with
    | false =>
      clear h
      go_enter Try.func7, Try.ntmps7
      go_wp2_with (first | (go_at_call 32; refine (sPlcOk_c _ _).mono ?_; rintro e w' ⟨rfl, t, rfl⟩) | (go_at_call 33; refine (l1In_c _ _ _ _).mono ?_; rintro e w' ⟨rfl, rfl⟩))
      go_ret
      exact ⟨ret_bool (by rw [E.out]), (by ((try simp only [ext_drew]); (try simp only [ext_ext]); repeat (first | exact Ext.refl _ | with_reducible apply Ext.add | with_reducible apply Ext.dr | apply Ext.alloc | apply Ext.ext | apply Ext.drew | refine Ext.trans ?_ (by assumption))))⟩
    | true =>
      have h3 : inB x.cell 0 (m.c - 1) = false := by simp_all
      obtain ⟨⟨m1, m2⟩, _⟩ := plcOk_iff.1 h1
      clear h
      go_enter Try.func7, Try.ntmps7
      go_wp2_with (first | (go_at_call 32; refine (sPlcOk_c _ _).mono ?_; rintro e w' ⟨rfl, t, rfl⟩) | (go_at_call 33; refine (l1In_c _ _ _ _).mono ?_; rintro e w' ⟨rfl, rfl⟩))
      go_ret
      exact ⟨ret_bool (by rw [E.out]), (by ((try simp only [ext_drew]); (try simp only [ext_ext]); repeat (first | exact Ext.refl _ | with_reducible apply Ext.add | with_reducible apply Ext.dr | apply Ext.alloc | apply Ext.ext | apply Ext.drew | refine Ext.trans ?_ (by assumption))))⟩
theorem iMsgOk_c (m : Mp) (s : Int) (x : Msg) (w : World) :
    Calls Try.prog 10 #[.agg #[.int .i64 m.c, .int .i64 m.w], .int .i64 s, .agg #[.int .i64 x.kind, .int .i64 x.to_, .int .i64 x.cell, .int .i64 x.side, .int .i64 x.n, .int .i64 x.ord.who, .int .i64 x.ord.seq, .int .i64 x.ord.kind, .int .i64 x.ord.to_, .int .i64 x.ord.n, .int .i64 x.pcl.n, .int .i64 x.pcl.kind, .int .i64 x.pcl.wk.id, .int .i64 x.pcl.wk.at_, .int .i64 x.pcl.wk.coins, .int .i64 x.pcl.wk.seq, .int .i64 x.pcl.wk.last, .int .i64 x.pcl.coins, .int .i64 x.gst.src, .int .i64 x.gst.count, .int .i64 x.gst.wk.id, .int .i64 x.gst.wk.at_, .int .i64 x.gst.wk.coins, .int .i64 x.gst.wk.seq, .int .i64 x.gst.wk.last]] w fun e w' => e = .returned (.bool (msgOk m s x)) ∧ Ext w w' := by
  by_cases hb : plcOk m = false ∨ inB s 1 3 = false ∨ inB x.cell 0 (m.c - 1) = false
  · exact iMsgOk_bad m s x w hb
  · have h1 : plcOk m = true := by cases h : plcOk m with | true => rfl | false => exact absurd (.inl h) hb
    have h2 : inB s 1 3 = true := by cases h : inB s 1 3 with | true => rfl | false => exact absurd (.inr (.inl h)) hb
    have h3 : inB x.cell 0 (m.c - 1) = true := by cases h : inB x.cell 0 (m.c - 1) with | true => rfl | false => exact absurd (.inr (.inr h)) hb
    obtain ⟨s1, s2⟩ := inB_iff.1 h2
    obtain ⟨⟨m1, m2⟩, _⟩ := plcOk_iff.1 h1
    clear hb
    obtain ⟨kind, to_, cell, side, n, o, p, g⟩ := x
    by_cases k1 : kind = 1
    · subst k1; exact iMsgOk_k1 m s to_ cell side n o p g w h1 h2 h3 s1 s2 
    by_cases k2 : kind = 2
    · subst k2; exact iMsgOk_k2 m s to_ cell side n o p g w h1 h2 h3 s1 s2 
    by_cases k3 : kind = 3
    · subst k3; exact iMsgOk_k3 m s to_ cell side n o p g w h1 h2 h3 s1 s2 
    by_cases k4 : kind = 4
    · subst k4; exact iMsgOk_k4 m s to_ cell side n o p g w h1 h2 h3 s1 s2 
    by_cases k5 : kind = 5
    · subst k5; exact iMsgOk_k5 m s to_ cell side n o p g w h1 h2 h3 s1 s2 
    by_cases k6 : kind = 6
    · subst k6; exact iMsgOk_k6 m s to_ cell side n o p g w h1 h2 h3 s1 s2 
    by_cases k7 : kind = 7
    · subst k7; exact iMsgOk_k7 m s to_ cell side n o p g w h1 h2 h3 s1 s2 
    exact iMsgOk_k0 m s to_ cell side n o p g w kind (by simpa using k1) (by simpa using k2) (by simpa using k3) (by simpa using k4) (by simpa using k5) (by simpa using k6) (by simpa using k7) h1 h2 h3 s1 s2 
theorem sMsgOk_c (m : Mp) (s : Int) (x : Msg) (w : World) :
    Calls Try.prog 7 #[.agg #[.int .i64 m.c, .int .i64 m.w], .int .i64 s, .agg #[.int .i64 x.kind, .int .i64 x.to_, .int .i64 x.cell, .int .i64 x.side, .int .i64 x.n, .int .i64 x.ord.who, .int .i64 x.ord.seq, .int .i64 x.ord.kind, .int .i64 x.ord.to_, .int .i64 x.ord.n, .int .i64 x.pcl.n, .int .i64 x.pcl.kind, .int .i64 x.pcl.wk.id, .int .i64 x.pcl.wk.at_, .int .i64 x.pcl.wk.coins, .int .i64 x.pcl.wk.seq, .int .i64 x.pcl.wk.last, .int .i64 x.pcl.coins, .int .i64 x.gst.src, .int .i64 x.gst.count, .int .i64 x.gst.wk.id, .int .i64 x.gst.wk.at_, .int .i64 x.gst.wk.coins, .int .i64 x.gst.wk.seq, .int .i64 x.gst.wk.last]] w fun e w' => e = .returned (.bool (msgOk m s x)) ∧ Ext w w' := by
  by_cases hb : plcOk m = false ∨ inB s 1 3 = false ∨ inB x.cell 0 (m.c - 1) = false
  · exact sMsgOk_bad m s x w hb
  · have h1 : plcOk m = true := by cases h : plcOk m with | true => rfl | false => exact absurd (.inl h) hb
    have h2 : inB s 1 3 = true := by cases h : inB s 1 3 with | true => rfl | false => exact absurd (.inr (.inl h)) hb
    have h3 : inB x.cell 0 (m.c - 1) = true := by cases h : inB x.cell 0 (m.c - 1) with | true => rfl | false => exact absurd (.inr (.inr h)) hb
    obtain ⟨s1, s2⟩ := inB_iff.1 h2
    obtain ⟨⟨m1, m2⟩, _⟩ := plcOk_iff.1 h1
    clear hb
    obtain ⟨kind, to_, cell, side, n, o, p, g⟩ := x
    by_cases k1 : kind = 1
    · subst k1; exact sMsgOk_k1 m s to_ cell side n o p g w h1 h2 h3 s1 s2 m1 m2
    by_cases k2 : kind = 2
    · subst k2; exact sMsgOk_k2 m s to_ cell side n o p g w h1 h2 h3 s1 s2 m1 m2
    by_cases k3 : kind = 3
    · subst k3; exact sMsgOk_k3 m s to_ cell side n o p g w h1 h2 h3 s1 s2 m1 m2
    by_cases k4 : kind = 4
    · subst k4; exact sMsgOk_k4 m s to_ cell side n o p g w h1 h2 h3 s1 s2 m1 m2
    by_cases k5 : kind = 5
    · subst k5; exact sMsgOk_k5 m s to_ cell side n o p g w h1 h2 h3 s1 s2 m1 m2
    by_cases k6 : kind = 6
    · subst k6; exact sMsgOk_k6 m s to_ cell side n o p g w h1 h2 h3 s1 s2 m1 m2
    by_cases k7 : kind = 7
    · subst k7; exact sMsgOk_k7 m s to_ cell side n o p g w h1 h2 h3 s1 s2 m1 m2
    exact sMsgOk_k0 m s to_ cell side n o p g w kind (by simpa using k1) (by simpa using k2) (by simpa using k3) (by simpa using k4) (by simpa using k5) (by simpa using k6) (by simpa using k7) h1 h2 h3 s1 s2 m1 m2
end Go.Proofs.Ytnfodkhfoegnaaa

namespace Go.Proofs.Ytnfodkhfoegnaaa
open Go.RowKit
set_option linter.unusedSimpArgs false
set_option linter.unusedVariables false


theorem set_selfR {α : Type} {xs : List α} {k : Nat} {x : α} (h : xs[k]? = some x) : xs.set k x = xs := by
  obtain ⟨hk, rfl⟩ := List.getElem?_eq_some_iff.1 h
  exact List.set_getElem_self hk
set_option maxRecDepth 100000 in
set_option maxHeartbeats 4000000 in
theorem hear_c (m : Mp) (xs : List Row) (a : Option Addr) (n c p lo hi : Nat) (x : Msg) (w : World) (ho : OwnR lo hi w sGwy [.slice a n c] (gwyDat xs)) (hp : hi ≤ p) (hpw : p < w.heap.size)
    (f0 : w.cell? ⟨p, 0, none⟩ = some (.slice a n c)) (hm : plcOk m = true) (hseq : ∀ y ∈ xs, 0 ≤ y.cell ∧ y.cell ≤ 3) (b0 : n ≤ 1048576) :
    Calls Try.prog 66 #[.pointer (some ⟨p, 0, none⟩), .agg #[.int .i64 m.c, .int .i64 m.w], .agg #[.int .i64 x.kind, .int .i64 x.to_, .int .i64 x.cell, .int .i64 x.side, .int .i64 x.n, .int .i64 x.ord.who, .int .i64 x.ord.seq, .int .i64 x.ord.kind, .int .i64 x.ord.to_, .int .i64 x.ord.n, .int .i64 x.pcl.n, .int .i64 x.pcl.kind, .int .i64 x.pcl.wk.id, .int .i64 x.pcl.wk.at_, .int .i64 x.pcl.wk.coins, .int .i64 x.pcl.wk.seq, .int .i64 x.pcl.wk.last, .int .i64 x.pcl.coins, .int .i64 x.gst.src, .int .i64 x.gst.count, .int .i64 x.gst.wk.id, .int .i64 x.gst.wk.at_, .int .i64 x.gst.wk.coins, .int .i64 x.gst.wk.seq, .int .i64 x.gst.wk.last]] w fun e w' => e = .returned (.bool (hearB xs x)) ∧
      OwnR lo hi w' sGwy [.slice a n c] (gwyDat (hearL m xs x)) ∧ ChgR lo hi w w' := by
  obtain ⟨hh, B, hn, hr, ho⟩ := ho
  have O0 := own_Gwy_one ho
  clear ho
  have HO0 := hid O0
  have HH := hid hh
  have HND := hid hn
  have HR := hid hr
  have HS := hid hseq
  have HX := hid (O0.re (fun b hb => Nat.lt_of_lt_of_le (hr b hb).2 hh))
  clear hh hn hr hseq O0
  rcases place_lt (p := isWho x.ord.who) (xs := xs) (i := 0) with ⟨h1, h2⟩ | ⟨k, r, h1, h2, h3, h4⟩
  · have E := hid (hear_none (m := m) h2).1
    have E0 := hid (hear_none (m := m) h2).2
    have H1 : rowPlace xs x.ord.who = -1 := h1
    clear h1 h2
    go_enter Try.func66, Try.ntmps66
    try go_wp2_with (first
        | (go_at_call 86; refine (row_c _ _ _ _ _ _ (Re.of (Hid.out (by assumption)) (by ((try simp only [ext_drew]); (try simp only [ext_ext]); repeat (first | exact Ext.refl _ | with_reducible apply Ext.add | with_reducible apply Ext.dr | apply Ext.alloc | apply Ext.ext | apply Ext.drew | refine Ext.trans ?_ (by assumption))))) (by omega)).mono ?_; rintro e w' ⟨rfl, t, rfl⟩)
        | (
          with_reducible refine wp_region_mix (by kernel_rfl) (by decide +kernel) ?_
          repeat (first
            | (refine mix_pure rfl ?_; (first | go_big_quiet_skip | (go_big_quiet_want; go_big_quiet_op; go_big_quiet_on)); refine wpQuiet_nil ?_)
            | (refine mix_skip (by rfl) ?_; (try simp only [Act.put, List.setIfInBounds_toArray, List.set_cons_zero, List.set_cons_succ]))
            | (refine mix_mk rfl (by rfl) (fun K hK => ?_); (first | (go_simp; first | (go_at_call 86; refine (row_c _ _ _ _ _ _ (Re.of (Hid.out (by assumption)) (by ((try simp only [ext_drew]); (try simp only [ext_ext]); repeat (first | exact Ext.refl _ | with_reducible apply Ext.add | with_reducible apply Ext.dr | apply Ext.alloc | apply Ext.ext | apply Ext.drew | refine Ext.trans ?_ (by assumption))))) (by omega)).mono ?_; rintro e w' ⟨rfl, t, rfl⟩) | skip)); (show K _ _); refine hK _ _ (show Ext _ _ from (by ((try simp only [ext_drew]); (try simp only [ext_ext]); repeat (first | exact Ext.refl _ | with_reducible apply Ext.add | with_reducible apply Ext.dr | apply Ext.alloc | apply Ext.ext | apply Ext.drew | refine Ext.trans ?_ (by assumption))))) ?_; clear hK K; (try simp only [Act.put, List.setIfInBounds_toArray, List.set_cons_zero, List.set_cons_succ])))
          refine mix_nil ?_)
        | (
          with_reducible refine wp_region_ext (by kernel_rfl) (by kernel_rfl) ?_
          repeat (first | go_big_quiet_skip | (go_big_quiet_want; go_big_quiet_op; first | go_big_quiet_on | (apply Exists.intro; refine ⟨fun _ => ?_, ?_⟩; ((first | (go_at_call 86; first | exact quiet_call (row_c _ _ _ _ _ _ (Re.of (Hid.out (by assumption)) (by ((try simp only [ext_drew]); (try simp only [ext_ext]); repeat (first | exact Ext.refl _ | with_reducible apply Ext.add | with_reducible apply Ext.dr | apply Ext.alloc | apply Ext.ext | apply Ext.drew | refine Ext.trans ?_ (by assumption))))) (by omega)) | exact quiet_call2 (row_c _ _ _ _ _ _ (Re.of (Hid.out (by assumption)) (by ((try simp only [ext_drew]); (try simp only [ext_ext]); repeat (first | exact Ext.refl _ | with_reducible apply Ext.add | with_reducible apply Ext.dr | apply Ext.alloc | apply Ext.ext | apply Ext.drew | refine Ext.trans ?_ (by assumption))))) (by omega))))); (try rw [h1]); (try rw [h2]); (try rw [h3]); (try rw [h4]); (try rw [p1]); (try rw [p2]); (try rw [p3]); (try rw [p4]); (try rw [r1]); (try rw [r2]); (try rw [r3]); (try rw [r4]); (try rw [r5]); (try rw [r6]); (try rw [q3]); (try rw [q4]); (try rw [hp]); (try rw [hq]); go_big_quiet_on)))
          refine wpQuiet_nil ?_
          rintro _ ⟨tq, rfl⟩))
    go_ret
    refine ⟨ret_bool (by rw [E.out]), ?_, Chg.toR (by repeat (first | with_reducible exact Chg.refl _ _ | with_reducible apply Chg.drew | with_reducible apply Chg.drewl | with_reducible refine Chg.turn (by simp) | with_reducible refine Chg.both ?_ (by simp) | (with_reducible refine Chg.set ?_ (by simp) _) | with_reducible apply Chg.alloc | with_reducible apply Chg.ext)) HR.out⟩
    rw [E0.out]
    exact ⟨by have := HH.out; (try simp [go_sem]) <;> omega, _, HND.out, HR.out, own_Gwy_of (Own.chg HO0.out (B' := []) (by repeat (first | with_reducible exact Chg.refl _ _ | with_reducible apply Chg.drew | with_reducible apply Chg.drewl | with_reducible refine Chg.turn (by simp) | with_reducible refine Chg.both ?_ (by simp) | (with_reducible refine Chg.set ?_ (by simp) _) | with_reducible apply Chg.alloc | with_reducible apply Chg.ext)) (fun b hb => Nat.lt_of_lt_of_le (HR.out b hb).2 HH.out) (by simp))⟩
  · have H1 : rowPlace xs x.ord.who = (k : Int) := by rw [rowPlace, h1]; simp
    have hk : k < n := by rw [HX.out.len]; exact (List.getElem?_eq_some_iff.1 h2).1
    have p1 : decide ((k : Int) < 0) = false := by simp
    have HA := hid (hear_some (m := m) h2 h3 h4 H1)
    have HSELF := hid (set_selfR h2)
    have HK0 := hid h2
    obtain ⟨u, arr, T, y, rfl, rfl, hl, hy, hb, hsz, hcell, hput⟩ := own_at_Row HO0.out hk
    obtain rfl : r = y := Option.some.inj (h2.symm.trans hy)
    have hr0 := HR.out u (by simp)
    have hpu : p ≠ u := by omega
    have hup : u ≠ p := by omega
    have g0 : w.cell? ⟨u, k * 10, none⟩ = some (.int .i64 r.who) := (cell_blk hb _).trans (hcell 0 _ rfl)
    have g1 : w.cell? ⟨u, k * 10 + 1, none⟩ = some (.int .i64 r.cell) := (cell_blk hb _).trans (hcell 1 _ rfl)
    have g2 : w.cell? ⟨u, k * 10 + 2, none⟩ = some (.bool r.busy) := (cell_blk hb _).trans (hcell 2 _ rfl)
    have g3 : w.cell? ⟨u, k * 10 + 3, none⟩ = some (.int .i64 r.ord.who) := (cell_blk hb _).trans (hcell 3 _ rfl)
    have g4 : w.cell? ⟨u, k * 10 + 4, none⟩ = some (.int .i64 r.ord.seq) := (cell_blk hb _).trans (hcell 4 _ rfl)
    have g5 : w.cell? ⟨u, k * 10 + 5, none⟩ = some (.int .i64 r.ord.kind) := (cell_blk hb _).trans (hcell 5 _ rfl)
    have g6 : w.cell? ⟨u, k * 10 + 6, none⟩ = some (.int .i64 r.ord.to_) := (cell_blk hb _).trans (hcell 6 _ rfl)
    have g7 : w.cell? ⟨u, k * 10 + 7, none⟩ = some (.int .i64 r.ord.n) := (cell_blk hb _).trans (hcell 7 _ rfl)
    have hu := lt_blk hb
    have HB := hid hb
    have HZ := hid hsz
    have HC := hid hcell
    have HP := hid hput
    clear hb hsz hcell hput hy h1 h2 h3 h4 hl
    rcases (show r.busy = true ∨ r.busy = false by cases r.busy <;> simp) with r5 | r5
    · cases r6 : ((r.ord.who == x.ord.who) && ((r.ord.seq == x.ord.seq) && ((r.ord.kind == x.ord.kind) && ((r.ord.to_ == x.ord.to_) && (r.ord.n == x.ord.n))))) with
      | false =>
        have hq : hearHit r x = false := by rw [hearHit, r5, eqOrd]; simp only [Bool.true_and, Bool.and_assoc]; exact r6
        have E := hid (show hearB xs x = false by rw [HA.out.1, hq]; rfl)
        have E0 := hid (show hearL m xs x = xs by rw [HA.out.2, hq]; rfl)
        clear hq
        go_enter Try.func66, Try.ntmps66
        try go_wp2_with (first
            | (go_at_call 86; refine (row_c _ _ _ _ _ _ (Re.of (Hid.out (by assumption)) (by ((try simp only [ext_drew]); (try simp only [ext_ext]); repeat (first | exact Ext.refl _ | with_reducible apply Ext.add | with_reducible apply Ext.dr | apply Ext.alloc | apply Ext.ext | apply Ext.drew | refine Ext.trans ?_ (by assumption))))) (by omega)).mono ?_; rintro e w' ⟨rfl, t, rfl⟩)
            | (
              with_reducible refine wp_region_mix (by kernel_rfl) (by decide +kernel) ?_
              repeat (first
                | (refine mix_pure rfl ?_; (first | go_big_quiet_skip | (go_big_quiet_want; go_big_quiet_op; go_big_quiet_on)); refine wpQuiet_nil ?_)
                | (refine mix_skip (by rfl) ?_; (try simp only [Act.put, List.setIfInBounds_toArray, List.set_cons_zero, List.set_cons_succ]))
                | (refine mix_mk rfl (by rfl) (fun K hK => ?_); (first | (go_simp; first | (go_at_call 86; refine (row_c _ _ _ _ _ _ (Re.of (Hid.out (by assumption)) (by ((try simp only [ext_drew]); (try simp only [ext_ext]); repeat (first | exact Ext.refl _ | with_reducible apply Ext.add | with_reducible apply Ext.dr | apply Ext.alloc | apply Ext.ext | apply Ext.drew | refine Ext.trans ?_ (by assumption))))) (by omega)).mono ?_; rintro e w' ⟨rfl, t, rfl⟩) | skip)); (show K _ _); refine hK _ _ (show Ext _ _ from (by ((try simp only [ext_drew]); (try simp only [ext_ext]); repeat (first | exact Ext.refl _ | with_reducible apply Ext.add | with_reducible apply Ext.dr | apply Ext.alloc | apply Ext.ext | apply Ext.drew | refine Ext.trans ?_ (by assumption))))) ?_; clear hK K; (try simp only [Act.put, List.setIfInBounds_toArray, List.set_cons_zero, List.set_cons_succ])))
              refine mix_nil ?_)
            | (
              with_reducible refine wp_region_ext (by kernel_rfl) (by kernel_rfl) ?_
              repeat (first | go_big_quiet_skip | (go_big_quiet_want; go_big_quiet_op; first | go_big_quiet_on | (apply Exists.intro; refine ⟨fun _ => ?_, ?_⟩; ((first | (go_at_call 86; first | exact quiet_call (row_c _ _ _ _ _ _ (Re.of (Hid.out (by assumption)) (by ((try simp only [ext_drew]); (try simp only [ext_ext]); repeat (first | exact Ext.refl _ | with_reducible apply Ext.add | with_reducible apply Ext.dr | apply Ext.alloc | apply Ext.ext | apply Ext.drew | refine Ext.trans ?_ (by assumption))))) (by omega)) | exact quiet_call2 (row_c _ _ _ _ _ _ (Re.of (Hid.out (by assumption)) (by ((try simp only [ext_drew]); (try simp only [ext_ext]); repeat (first | exact Ext.refl _ | with_reducible apply Ext.add | with_reducible apply Ext.dr | apply Ext.alloc | apply Ext.ext | apply Ext.drew | refine Ext.trans ?_ (by assumption))))) (by omega))))); (try rw [h1]); (try rw [h2]); (try rw [h3]); (try rw [h4]); (try rw [p1]); (try rw [p2]); (try rw [p3]); (try rw [p4]); (try rw [r1]); (try rw [r2]); (try rw [r3]); (try rw [r4]); (try rw [r5]); (try rw [r6]); (try rw [q3]); (try rw [q4]); (try rw [hp]); (try rw [hq]); go_big_quiet_on)))
              refine wpQuiet_nil ?_
              rintro _ ⟨tq, rfl⟩))
        go_ret
        refine ⟨ret_bool (by rw [E.out]), ?_, Chg.toR (by repeat (first | with_reducible exact Chg.refl _ _ | with_reducible apply Chg.drew | with_reducible apply Chg.drewl | with_reducible refine Chg.turn (by simp) | with_reducible refine Chg.both ?_ (by simp) | (with_reducible refine Chg.set ?_ (by simp) _) | with_reducible apply Chg.alloc | with_reducible apply Chg.ext)) HR.out⟩
        rw [E0.out]
        exact ⟨by have := HH.out; (try simp [go_sem]) <;> omega, _, HND.out, HR.out, own_Gwy_of (Own.chg HO0.out (B' := []) (by repeat (first | with_reducible exact Chg.refl _ _ | with_reducible apply Chg.drew | with_reducible apply Chg.drewl | with_reducible refine Chg.turn (by simp) | with_reducible refine Chg.both ?_ (by simp) | (with_reducible refine Chg.set ?_ (by simp) _) | with_reducible apply Chg.alloc | with_reducible apply Chg.ext)) (fun b hb => Nat.lt_of_lt_of_le (HR.out b hb).2 HH.out) (by simp))⟩
      | true =>
        have HQ := hid (show hearHit r x = true by rw [hearHit, r5, eqOrd]; simp only [Bool.true_and, Bool.and_assoc]; exact r6)
        cases q3 : (x.kind == 3) with
        | true =>
          have e3 : x.kind = 3 := by simpa using q3
          have E := hid (show hearB xs x = true by rw [HA.out.1, HQ.out, q3]; rfl)
          have E0 := hid (show hearL m xs x = xs.set k ⟨r.who, x.cell, false, ordNil, x.ord.seq, x.n⟩ by rw [HA.out.2, if_pos HQ.out, hearRow, if_pos e3])
          clear e3
          have z0 := frozen_blk HB.out (k * 10)
          have z1 := frozen_blk HB.out (k * 10 + 1)
          have z2 := frozen_blk HB.out (k * 10 + 2)
          have z3 := frozen_blk HB.out (k * 10 + 3)
          have z4 := frozen_blk HB.out (k * 10 + 4)
          have z5 := frozen_blk HB.out (k * 10 + 5)
          have z6 := frozen_blk HB.out (k * 10 + 6)
          have z7 := frozen_blk HB.out (k * 10 + 7)
          have z8 := frozen_blk HB.out (k * 10 + 8)
          have z9 := frozen_blk HB.out (k * 10 + 9)
          have g8 : w.cell? ⟨u, k * 10 + 8, none⟩ = some (.int .i64 r.seq) := (cell_blk HB.out _).trans (HC.out 8 _ rfl)
          have g9 : w.cell? ⟨u, k * 10 + 9, none⟩ = some (.int .i64 r.code) := (cell_blk HB.out _).trans (HC.out 9 _ rfl)
          go_enter Try.func66, Try.ntmps66
          go_wp2_with (fail)
          with_reducible refine wp_region_ext (by kernel_rfl) (by kernel_rfl) ?_
          repeat (go_big_quiet_step ((first | (go_at_call 86; first | exact quiet_call (row_c _ _ _ _ _ _ (Re.of (Hid.out (by assumption)) (by ((try simp only [ext_drew]); (try simp only [ext_ext]); repeat (first | exact Ext.refl _ | with_reducible apply Ext.add | with_reducible apply Ext.dr | apply Ext.alloc | apply Ext.ext | apply Ext.drew | refine Ext.trans ?_ (by assumption))))) (by omega)) | exact quiet_call2 (row_c _ _ _ _ _ _ (Re.of (Hid.out (by assumption)) (by ((try simp only [ext_drew]); (try simp only [ext_ext]); repeat (first | exact Ext.refl _ | with_reducible apply Ext.add | with_reducible apply Ext.dr | apply Ext.alloc | apply Ext.ext | apply Ext.drew | refine Ext.trans ?_ (by assumption))))) (by omega))))))
          refine wpQuiet_nil ?_
          rintro _ ⟨tq, rfl⟩
          go_wp2_with (fail)
          with_reducible refine wp_region_ext (by kernel_rfl) (by kernel_rfl) ?_
          repeat (first | go_big_quiet_skip | (go_big_quiet_want; go_big_quiet_op; first | go_big_quiet_on | (apply Exists.intro; refine ⟨fun _ => ?_, ?_⟩; (fail); (try rw [p1]); (try rw [r5]); (try rw [r6]); go_big_quiet_on)))
          refine wpQuiet_nil ?_
          rintro _ ⟨tq, rfl⟩
          go_wp2_with (fail)
          go_region
          go_wp2_with (fail)
          go_ret
          refine ⟨ret_bool (by rw [E.out]), ?_, Chg.toR (by repeat (first | with_reducible exact Chg.refl _ _ | with_reducible apply Chg.drew | with_reducible apply Chg.drewl | with_reducible refine Chg.turn (by simp) | with_reducible refine Chg.both ?_ (by simp) | (with_reducible refine Chg.set ?_ (by simp) _) | with_reducible apply Chg.alloc | with_reducible apply Chg.ext)) HR.out⟩
          rw [E0.out]
          refine ⟨by have := HH.out; (try simp [go_sem]) <;> omega, _, HND.out, HR.out, own_Gwy_of (HP.out _ ((((((((((arr.setIfInBounds (k * 10) (.int .i64 r.who)).setIfInBounds (k * 10 + 1) (.int .i64 x.cell)).setIfInBounds (k * 10 + 2) (.bool false)).setIfInBounds (k * 10 + 3) (.int .i64 0)).setIfInBounds (k * 10 + 4) (.int .i64 0)).setIfInBounds (k * 10 + 5) (.int .i64 0)).setIfInBounds (k * 10 + 6) (.int .i64 0)).setIfInBounds (k * 10 + 7) (.int .i64 0)).setIfInBounds (k * 10 + 8) (.int .i64 x.ord.seq)).setIfInBounds (k * 10 + 9) (.int .i64 x.n)) ⟨r.who, x.cell, false, ordNil, x.ord.seq, x.n⟩ ((by repeat (first | with_reducible exact HB.out | with_reducible apply blk_drew | with_reducible refine blk_set ?_ | (with_reducible refine blk_other ?_ (by first | assumption | omega)) | with_reducible refine blk_ext ?_ | with_reducible refine blk_alloc ?_))) (by simp) (fun i hi => ?_) (fun i v hv => ?_))⟩
          · repeat (with_reducible refine arr_out (by omega) ?_)
            rfl
          have hsz := HZ.out
          match i, hv with
          | 0, hv =>
            repeat (with_reducible refine arr_out (by omega) ?_)
            exact (arr_at (by omega) (by (try simp only [Array.size_setIfInBounds]); omega)).trans hv
          | 1, hv =>
            repeat (with_reducible refine arr_out (by omega) ?_)
            exact (arr_at (by omega) (by (try simp only [Array.size_setIfInBounds]); omega)).trans hv
          | 2, hv =>
            repeat (with_reducible refine arr_out (by omega) ?_)
            exact (arr_at (by omega) (by (try simp only [Array.size_setIfInBounds]); omega)).trans hv
          | 3, hv =>
            repeat (with_reducible refine arr_out (by omega) ?_)
            exact (arr_at (by omega) (by (try simp only [Array.size_setIfInBounds]); omega)).trans hv
          | 4, hv =>
            repeat (with_reducible refine arr_out (by omega) ?_)
            exact (arr_at (by omega) (by (try simp only [Array.size_setIfInBounds]); omega)).trans hv
          | 5, hv =>
            repeat (with_reducible refine arr_out (by omega) ?_)
            exact (arr_at (by omega) (by (try simp only [Array.size_setIfInBounds]); omega)).trans hv
          | 6, hv =>
            repeat (with_reducible refine arr_out (by omega) ?_)
            exact (arr_at (by omega) (by (try simp only [Array.size_setIfInBounds]); omega)).trans hv
          | 7, hv =>
            repeat (with_reducible refine arr_out (by omega) ?_)
            exact (arr_at (by omega) (by (try simp only [Array.size_setIfInBounds]); omega)).trans hv
          | 8, hv =>
            repeat (with_reducible refine arr_out (by omega) ?_)
            exact (arr_at (by omega) (by (try simp only [Array.size_setIfInBounds]); omega)).trans hv
          | 9, hv =>
            repeat (with_reducible refine arr_out (by omega) ?_)
            exact (arr_at (by omega) (by (try simp only [Array.size_setIfInBounds]); omega)).trans hv
        | false =>
          have n3 : ¬ x.kind = 3 := by simpa using q3
          have E := hid (show hearB xs x = false by rw [HA.out.1, q3, Bool.and_false])
          cases q4 : (x.kind == 4) with
          | false =>
            have n4 : ¬ x.kind = 4 := by simpa using q4
            have E0 := hid (show hearL m xs x = xs by rw [HA.out.2, if_pos HQ.out, hearRow, if_neg n3, if_neg (fun h => n4 h.1)]; exact HSELF.out)
            clear n3 n4
            go_enter Try.func66, Try.ntmps66
            try go_wp2_with (first
                | (go_at_call 86; refine (row_c _ _ _ _ _ _ (Re.of (Hid.out (by assumption)) (by ((try simp only [ext_drew]); (try simp only [ext_ext]); repeat (first | exact Ext.refl _ | with_reducible apply Ext.add | with_reducible apply Ext.dr | apply Ext.alloc | apply Ext.ext | apply Ext.drew | refine Ext.trans ?_ (by assumption))))) (by omega)).mono ?_; rintro e w' ⟨rfl, t, rfl⟩)
                | (
                  with_reducible refine wp_region_mix (by kernel_rfl) (by decide +kernel) ?_
                  repeat (first
                    | (refine mix_pure rfl ?_; (first | go_big_quiet_skip | (go_big_quiet_want; go_big_quiet_op; go_big_quiet_on)); refine wpQuiet_nil ?_)
                    | (refine mix_skip (by rfl) ?_; (try simp only [Act.put, List.setIfInBounds_toArray, List.set_cons_zero, List.set_cons_succ]))
                    | (refine mix_mk rfl (by rfl) (fun K hK => ?_); (first | (go_simp; first | (go_at_call 86; refine (row_c _ _ _ _ _ _ (Re.of (Hid.out (by assumption)) (by ((try simp only [ext_drew]); (try simp only [ext_ext]); repeat (first | exact Ext.refl _ | with_reducible apply Ext.add | with_reducible apply Ext.dr | apply Ext.alloc | apply Ext.ext | apply Ext.drew | refine Ext.trans ?_ (by assumption))))) (by omega)).mono ?_; rintro e w' ⟨rfl, t, rfl⟩) | skip)); (show K _ _); refine hK _ _ (show Ext _ _ from (by ((try simp only [ext_drew]); (try simp only [ext_ext]); repeat (first | exact Ext.refl _ | with_reducible apply Ext.add | with_reducible apply Ext.dr | apply Ext.alloc | apply Ext.ext | apply Ext.drew | refine Ext.trans ?_ (by assumption))))) ?_; clear hK K; (try simp only [Act.put, List.setIfInBounds_toArray, List.set_cons_zero, List.set_cons_succ])))
                  refine mix_nil ?_)
                | (
                  with_reducible refine wp_region_ext (by kernel_rfl) (by kernel_rfl) ?_
                  repeat (first | go_big_quiet_skip | (go_big_quiet_want; go_big_quiet_op; first | go_big_quiet_on | (apply Exists.intro; refine ⟨fun _ => ?_, ?_⟩; ((first | (go_at_call 86; first | exact quiet_call (row_c _ _ _ _ _ _ (Re.of (Hid.out (by assumption)) (by ((try simp only [ext_drew]); (try simp only [ext_ext]); repeat (first | exact Ext.refl _ | with_reducible apply Ext.add | with_reducible apply Ext.dr | apply Ext.alloc | apply Ext.ext | apply Ext.drew | refine Ext.trans ?_ (by assumption))))) (by omega)) | exact quiet_call2 (row_c _ _ _ _ _ _ (Re.of (Hid.out (by assumption)) (by ((try simp only [ext_drew]); (try simp only [ext_ext]); repeat (first | exact Ext.refl _ | with_reducible apply Ext.add | with_reducible apply Ext.dr | apply Ext.alloc | apply Ext.ext | apply Ext.drew | refine Ext.trans ?_ (by assumption))))) (by omega))))); (try rw [h1]); (try rw [h2]); (try rw [h3]); (try rw [h4]); (try rw [p1]); (try rw [p2]); (try rw [p3]); (try rw [p4]); (try rw [r1]); (try rw [r2]); (try rw [r3]); (try rw [r4]); (try rw [r5]); (try rw [r6]); (try rw [q3]); (try rw [q4]); (try rw [hp]); (try rw [hq]); go_big_quiet_on)))
                  refine wpQuiet_nil ?_
                  rintro _ ⟨tq, rfl⟩))
            go_ret
            refine ⟨ret_bool (by rw [E.out]), ?_, Chg.toR (by repeat (first | with_reducible exact Chg.refl _ _ | with_reducible apply Chg.drew | with_reducible apply Chg.drewl | with_reducible refine Chg.turn (by simp) | with_reducible refine Chg.both ?_ (by simp) | (with_reducible refine Chg.set ?_ (by simp) _) | with_reducible apply Chg.alloc | with_reducible apply Chg.ext)) HR.out⟩
            rw [E0.out]
            exact ⟨by have := HH.out; (try simp [go_sem]) <;> omega, _, HND.out, HR.out, own_Gwy_of (Own.chg HO0.out (B' := []) (by repeat (first | with_reducible exact Chg.refl _ _ | with_reducible apply Chg.drew | with_reducible apply Chg.drewl | with_reducible refine Chg.turn (by simp) | with_reducible refine Chg.both ?_ (by simp) | (with_reducible refine Chg.set ?_ (by simp) _) | with_reducible apply Chg.alloc | with_reducible apply Chg.ext)) (fun b hb => Nat.lt_of_lt_of_le (HR.out b hb).2 HH.out) (by simp))⟩
          | true =>
            have e4 : x.kind = 4 := by simpa using q4
            cases q5 : (x.cell == r.cell) with
            | false =>
              have n5 : ¬ x.cell = r.cell := by simpa using q5
              have E0 := hid (show hearL m xs x = xs by rw [HA.out.2, if_pos HQ.out, hearRow, if_neg n3, if_neg (fun h => n5 h.2)]; exact HSELF.out)
              clear n3 e4 n5
              go_enter Try.func66, Try.ntmps66
              try go_wp2_with (first
                  | (go_at_call 86; refine (row_c _ _ _ _ _ _ (Re.of (Hid.out (by assumption)) (by ((try simp only [ext_drew]); (try simp only [ext_ext]); repeat (first | exact Ext.refl _ | with_reducible apply Ext.add | with_reducible apply Ext.dr | apply Ext.alloc | apply Ext.ext | apply Ext.drew | refine Ext.trans ?_ (by assumption))))) (by omega)).mono ?_; rintro e w' ⟨rfl, t, rfl⟩)
                  | (
                    with_reducible refine wp_region_mix (by kernel_rfl) (by decide +kernel) ?_
                    repeat (first
                      | (refine mix_pure rfl ?_; (first | go_big_quiet_skip | (go_big_quiet_want; go_big_quiet_op; go_big_quiet_on)); refine wpQuiet_nil ?_)
                      | (refine mix_skip (by rfl) ?_; (try simp only [Act.put, List.setIfInBounds_toArray, List.set_cons_zero, List.set_cons_succ]))
                      | (refine mix_mk rfl (by rfl) (fun K hK => ?_); (first | (go_simp; first | (go_at_call 86; refine (row_c _ _ _ _ _ _ (Re.of (Hid.out (by assumption)) (by ((try simp only [ext_drew]); (try simp only [ext_ext]); repeat (first | exact Ext.refl _ | with_reducible apply Ext.add | with_reducible apply Ext.dr | apply Ext.alloc | apply Ext.ext | apply Ext.drew | refine Ext.trans ?_ (by assumption))))) (by omega)).mono ?_; rintro e w' ⟨rfl, t, rfl⟩) | skip)); (show K _ _); refine hK _ _ (show Ext _ _ from (by ((try simp only [ext_drew]); (try simp only [ext_ext]); repeat (first | exact Ext.refl _ | with_reducible apply Ext.add | with_reducible apply Ext.dr | apply Ext.alloc | apply Ext.ext | apply Ext.drew | refine Ext.trans ?_ (by assumption))))) ?_; clear hK K; (try simp only [Act.put, List.setIfInBounds_toArray, List.set_cons_zero, List.set_cons_succ])))
                    refine mix_nil ?_)
                  | (
                    with_reducible refine wp_region_ext (by kernel_rfl) (by kernel_rfl) ?_
                    repeat (first | go_big_quiet_skip | (go_big_quiet_want; go_big_quiet_op; first | go_big_quiet_on | (apply Exists.intro; refine ⟨fun _ => ?_, ?_⟩; ((first | (go_at_call 86; first | exact quiet_call (row_c _ _ _ _ _ _ (Re.of (Hid.out (by assumption)) (by ((try simp only [ext_drew]); (try simp only [ext_ext]); repeat (first | exact Ext.refl _ | with_reducible apply Ext.add | with_reducible apply Ext.dr | apply Ext.alloc | apply Ext.ext | apply Ext.drew | refine Ext.trans ?_ (by assumption))))) (by omega)) | exact quiet_call2 (row_c _ _ _ _ _ _ (Re.of (Hid.out (by assumption)) (by ((try simp only [ext_drew]); (try simp only [ext_ext]); repeat (first | exact Ext.refl _ | with_reducible apply Ext.add | with_reducible apply Ext.dr | apply Ext.alloc | apply Ext.ext | apply Ext.drew | refine Ext.trans ?_ (by assumption))))) (by omega))))); (try rw [h1]); (try rw [h2]); (try rw [h3]); (try rw [h4]); (try rw [p1]); (try rw [p2]); (try rw [p3]); (try rw [p4]); (try rw [r1]); (try rw [r2]); (try rw [r3]); (try rw [r4]); (try rw [r5]); (try rw [r6]); (try rw [q3]); (try rw [q4]); (try rw [hp]); (try rw [hq]); go_big_quiet_on)))
                    refine wpQuiet_nil ?_
                    rintro _ ⟨tq, rfl⟩))
              go_ret
              refine ⟨ret_bool (by rw [E.out]), ?_, Chg.toR (by repeat (first | with_reducible exact Chg.refl _ _ | with_reducible apply Chg.drew | with_reducible apply Chg.drewl | with_reducible refine Chg.turn (by simp) | with_reducible refine Chg.both ?_ (by simp) | (with_reducible refine Chg.set ?_ (by simp) _) | with_reducible apply Chg.alloc | with_reducible apply Chg.ext)) HR.out⟩
              rw [E0.out]
              exact ⟨by have := HH.out; (try simp [go_sem]) <;> omega, _, HND.out, HR.out, own_Gwy_of (Own.chg HO0.out (B' := []) (by repeat (first | with_reducible exact Chg.refl _ _ | with_reducible apply Chg.drew | with_reducible apply Chg.drewl | with_reducible refine Chg.turn (by simp) | with_reducible refine Chg.both ?_ (by simp) | (with_reducible refine Chg.set ?_ (by simp) _) | with_reducible apply Chg.alloc | with_reducible apply Chg.ext)) (fun b hb => Nat.lt_of_lt_of_le (HR.out b hb).2 HH.out) (by simp))⟩
            | true =>
              have e5 : x.cell = r.cell := by simpa using q5
              have E0 := hid (show hearL m xs x = xs.set k { r with cell := (r.cell + 1) % m.c } by rw [HA.out.2, if_pos HQ.out, hearRow, if_neg n3, if_pos ⟨e4, e5⟩])
              clear n3 e4 e5
              have z1 := frozen_blk HB.out (k * 10 + 1)
              have hs := HS.out r (List.mem_of_getElem? (show xs[k]? = some r from HK0.out))
              obtain ⟨⟨mc1, mc2⟩, _⟩ := plcOk_iff.1 hm
              have mc0 : (m.c == 0) = false := by simp; omega
              go_enter Try.func66, Try.ntmps66
              go_wp2_with (fail)
              with_reducible refine wp_region_ext (by kernel_rfl) (by kernel_rfl) ?_
              repeat (go_big_quiet_step ((first | (go_at_call 86; first | exact quiet_call (row_c _ _ _ _ _ _ (Re.of (Hid.out (by assumption)) (by ((try simp only [ext_drew]); (try simp only [ext_ext]); repeat (first | exact Ext.refl _ | with_reducible apply Ext.add | with_reducible apply Ext.dr | apply Ext.alloc | apply Ext.ext | apply Ext.drew | refine Ext.trans ?_ (by assumption))))) (by omega)) | exact quiet_call2 (row_c _ _ _ _ _ _ (Re.of (Hid.out (by assumption)) (by ((try simp only [ext_drew]); (try simp only [ext_ext]); repeat (first | exact Ext.refl _ | with_reducible apply Ext.add | with_reducible apply Ext.dr | apply Ext.alloc | apply Ext.ext | apply Ext.drew | refine Ext.trans ?_ (by assumption))))) (by omega))))))
              refine wpQuiet_nil ?_
              rintro _ ⟨tq, rfl⟩
              go_wp2_with (fail)
              with_reducible refine wp_region_ext (by kernel_rfl) (by kernel_rfl) ?_
              repeat (first | go_big_quiet_skip | (go_big_quiet_want; go_big_quiet_op; first | go_big_quiet_on | (apply Exists.intro; refine ⟨fun _ => ?_, ?_⟩; (fail); (try rw [p1]); (try rw [r5]); (try rw [r6]); go_big_quiet_on)))
              refine wpQuiet_nil ?_
              rintro _ ⟨tq, rfl⟩
              go_wp2_with (fail)
              with_reducible refine wp_region_ext (by kernel_rfl) (by kernel_rfl) ?_
              repeat (first | go_big_quiet_skip | (go_big_quiet_want; go_big_quiet_op; first | go_big_quiet_on | (apply Exists.intro; refine ⟨fun _ => ?_, ?_⟩; (fail); (try rw [q5]); go_big_quiet_on)))
              refine wpQuiet_nil ?_
              rintro _ ⟨tq, rfl⟩
              go_wp2_with (fail)
              go_region
              go_wp2_with (fail)
              go_ret
              refine ⟨ret_bool (by rw [E.out]), ?_, Chg.toR (by repeat (first | with_reducible exact Chg.refl _ _ | with_reducible apply Chg.drew | with_reducible apply Chg.drewl | with_reducible refine Chg.turn (by simp) | with_reducible refine Chg.both ?_ (by simp) | (with_reducible refine Chg.set ?_ (by simp) _) | with_reducible apply Chg.alloc | with_reducible apply Chg.ext)) HR.out⟩
              rw [E0.out]
              refine ⟨by have := HH.out; (try simp [go_sem]) <;> omega, _, HND.out, HR.out, own_Gwy_of (HP.out _ (arr.setIfInBounds (k * 10 + 1) (.int .i64 ((r.cell + 1) % m.c))) { r with cell := (r.cell + 1) % m.c } ((by repeat (first | with_reducible exact HB.out | with_reducible apply blk_drew | with_reducible refine blk_set ?_ | (with_reducible refine blk_other ?_ (by first | assumption | omega)) | with_reducible refine blk_ext ?_ | with_reducible refine blk_alloc ?_))) (by simp) (fun i hi => by rw [Array.getElem?_setIfInBounds, if_neg (by omega)]) (fun i v hv => ?_))⟩
              have hsz := HZ.out
              match i, hv with
              | 1, hv => rw [Array.getElem?_setIfInBounds, if_pos rfl, if_pos (by omega)]; exact hv
              | 0, hv => rw [Array.getElem?_setIfInBounds, if_neg (by omega)]; exact HC.out 0 v hv
              | 2, hv => rw [Array.getElem?_setIfInBounds, if_neg (by omega)]; exact HC.out 2 v hv
              | 3, hv => rw [Array.getElem?_setIfInBounds, if_neg (by omega)]; exact HC.out 3 v hv
              | 4, hv => rw [Array.getElem?_setIfInBounds, if_neg (by omega)]; exact HC.out 4 v hv
              | 5, hv => rw [Array.getElem?_setIfInBounds, if_neg (by omega)]; exact HC.out 5 v hv
              | 6, hv => rw [Array.getElem?_setIfInBounds, if_neg (by omega)]; exact HC.out 6 v hv
              | 7, hv => rw [Array.getElem?_setIfInBounds, if_neg (by omega)]; exact HC.out 7 v hv
              | 8, hv => rw [Array.getElem?_setIfInBounds, if_neg (by omega)]; exact HC.out 8 v hv
              | 9, hv => rw [Array.getElem?_setIfInBounds, if_neg (by omega)]; exact HC.out 9 v hv
    · have hq : hearHit r x = false := by rw [hearHit, r5]; rfl
      have E := hid (show hearB xs x = false by rw [HA.out.1, hq]; rfl)
      have E0 := hid (show hearL m xs x = xs by rw [HA.out.2, hq]; rfl)
      clear hq
      go_enter Try.func66, Try.ntmps66
      try go_wp2_with (first
          | (go_at_call 86; refine (row_c _ _ _ _ _ _ (Re.of (Hid.out (by assumption)) (by ((try simp only [ext_drew]); (try simp only [ext_ext]); repeat (first | exact Ext.refl _ | with_reducible apply Ext.add | with_reducible apply Ext.dr | apply Ext.alloc | apply Ext.ext | apply Ext.drew | refine Ext.trans ?_ (by assumption))))) (by omega)).mono ?_; rintro e w' ⟨rfl, t, rfl⟩)
          | (
            with_reducible refine wp_region_mix (by kernel_rfl) (by decide +kernel) ?_
            repeat (first
              | (refine mix_pure rfl ?_; (first | go_big_quiet_skip | (go_big_quiet_want; go_big_quiet_op; go_big_quiet_on)); refine wpQuiet_nil ?_)
              | (refine mix_skip (by rfl) ?_; (try simp only [Act.put, List.setIfInBounds_toArray, List.set_cons_zero, List.set_cons_succ]))
              | (refine mix_mk rfl (by rfl) (fun K hK => ?_); (first | (go_simp; first | (go_at_call 86; refine (row_c _ _ _ _ _ _ (Re.of (Hid.out (by assumption)) (by ((try simp only [ext_drew]); (try simp only [ext_ext]); repeat (first | exact Ext.refl _ | with_reducible apply Ext.add | with_reducible apply Ext.dr | apply Ext.alloc | apply Ext.ext | apply Ext.drew | refine Ext.trans ?_ (by assumption))))) (by omega)).mono ?_; rintro e w' ⟨rfl, t, rfl⟩) | skip)); (show K _ _); refine hK _ _ (show Ext _ _ from (by ((try simp only [ext_drew]); (try simp only [ext_ext]); repeat (first | exact Ext.refl _ | with_reducible apply Ext.add | with_reducible apply Ext.dr | apply Ext.alloc | apply Ext.ext | apply Ext.drew | refine Ext.trans ?_ (by assumption))))) ?_; clear hK K; (try simp only [Act.put, List.setIfInBounds_toArray, List.set_cons_zero, List.set_cons_succ])))
            refine mix_nil ?_)
          | (
            with_reducible refine wp_region_ext (by kernel_rfl) (by kernel_rfl) ?_
            repeat (first | go_big_quiet_skip | (go_big_quiet_want; go_big_quiet_op; first | go_big_quiet_on | (apply Exists.intro; refine ⟨fun _ => ?_, ?_⟩; ((first | (go_at_call 86; first | exact quiet_call (row_c _ _ _ _ _ _ (Re.of (Hid.out (by assumption)) (by ((try simp only [ext_drew]); (try simp only [ext_ext]); repeat (first | exact Ext.refl _ | with_reducible apply Ext.add | with_reducible apply Ext.dr | apply Ext.alloc | apply Ext.ext | apply Ext.drew | refine Ext.trans ?_ (by assumption))))) (by omega)) | exact quiet_call2 (row_c _ _ _ _ _ _ (Re.of (Hid.out (by assumption)) (by ((try simp only [ext_drew]); (try simp only [ext_ext]); repeat (first | exact Ext.refl _ | with_reducible apply Ext.add | with_reducible apply Ext.dr | apply Ext.alloc | apply Ext.ext | apply Ext.drew | refine Ext.trans ?_ (by assumption))))) (by omega))))); (try rw [h1]); (try rw [h2]); (try rw [h3]); (try rw [h4]); (try rw [p1]); (try rw [p2]); (try rw [p3]); (try rw [p4]); (try rw [r1]); (try rw [r2]); (try rw [r3]); (try rw [r4]); (try rw [r5]); (try rw [r6]); (try rw [q3]); (try rw [q4]); (try rw [hp]); (try rw [hq]); go_big_quiet_on)))
            refine wpQuiet_nil ?_
            rintro _ ⟨tq, rfl⟩))
      go_ret
      refine ⟨ret_bool (by rw [E.out]), ?_, Chg.toR (by repeat (first | with_reducible exact Chg.refl _ _ | with_reducible apply Chg.drew | with_reducible apply Chg.drewl | with_reducible refine Chg.turn (by simp) | with_reducible refine Chg.both ?_ (by simp) | (with_reducible refine Chg.set ?_ (by simp) _) | with_reducible apply Chg.alloc | with_reducible apply Chg.ext)) HR.out⟩
      rw [E0.out]
      exact ⟨by have := HH.out; (try simp [go_sem]) <;> omega, _, HND.out, HR.out, own_Gwy_of (Own.chg HO0.out (B' := []) (by repeat (first | with_reducible exact Chg.refl _ _ | with_reducible apply Chg.drew | with_reducible apply Chg.drewl | with_reducible refine Chg.turn (by simp) | with_reducible refine Chg.both ?_ (by simp) | (with_reducible refine Chg.set ?_ (by simp) _) | with_reducible apply Chg.alloc | with_reducible apply Chg.ext)) (fun b hb => Nat.lt_of_lt_of_le (HR.out b hb).2 HH.out) (by simp))⟩
end Go.Proofs.Ytnfodkhfoegnaaa

