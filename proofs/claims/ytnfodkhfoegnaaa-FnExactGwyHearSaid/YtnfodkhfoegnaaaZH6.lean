/- Packed texts: GwyHi, GwyHs, BigG, TMs, GapT -/
import Derived.Test.YtnfodkhfoegnaaaZH5
import Derived.Test.YtnfodkhfoegnaaaZH2
import Derived.Test.YtnfodkhfoegnaaaZH1
namespace Go.Proofs.Ytnfodkhfoegnaaa
open Go.RowKit
set_option linter.unusedSimpArgs false
set_option linter.unusedVariables false

def ghOk (m : Mp) (xs : List Row) (s : Int) (x : Msg) : Bool := gwyOk m xs && msgOk m s x
def ghB (m : Mp) (xs : List Row) (s : Int) (x : Msg) : Bool := ghOk m xs s x && hearB xs x
def ghL (m : Mp) (xs : List Row) (s : Int) (x : Msg) : List Row := if ghOk m xs s x = true then hearL m xs x else []
theorem ghL_len (m : Mp) (xs : List Row) (s : Int) (x : Msg) : (ghL m xs s x).length ≤ xs.length := by
  unfold ghL; split <;> simp [hearL_len]
theorem gwyOk_cells {m : Mp} {xs : List Row} (h : gwyOk m xs = true) : ∀ y ∈ xs, 0 ≤ y.cell ∧ y.cell ≤ 3 := by
  simp only [gwyOk, Bool.and_eq_true] at h
  obtain ⟨⟨m1, m2⟩, _⟩ := plcOk_iff.1 h.2
  intro y hy
  obtain ⟨k, hk⟩ := List.getElem?_of_mem hy
  have := allI_iff.1 h.1 k y hk
  simp only [gwyAt, gwyRow, rowNum, Bool.and_eq_true] at this
  have h3 := inB_iff.1 this.1.1.1.1.2
  have e : wrap64 (m.c - 1) = m.c - 1 := by unfold wrap64; omega
  rw [e] at h3
  omega
set_option maxRecDepth 100000 in
set_option maxHeartbeats 4000000 in
theorem iGwyHear_c (m : Mp) (xs : List Row) (s : Int) (x : Msg) (a : Option Addr) (n c : Nat) (w : World) (h0 : Re w (.sl sRow) [.slice a n c] (.l (xs.map Row.dat))) (b0 : n ≤ 1048576) :
    Calls Try.prog 21 #[.agg #[.int .i64 m.c, .int .i64 m.w], .agg #[.slice a n c], .int .i64 s, .agg #[.int .i64 x.kind, .int .i64 x.to_, .int .i64 x.cell, .int .i64 x.side, .int .i64 x.n, .int .i64 x.ord.who, .int .i64 x.ord.seq, .int .i64 x.ord.kind, .int .i64 x.ord.to_, .int .i64 x.ord.n, .int .i64 x.pcl.n, .int .i64 x.pcl.kind, .int .i64 x.pcl.wk.id, .int .i64 x.pcl.wk.at_, .int .i64 x.pcl.wk.coins, .int .i64 x.pcl.wk.seq, .int .i64 x.pcl.wk.last, .int .i64 x.pcl.coins, .int .i64 x.gst.src, .int .i64 x.gst.count, .int .i64 x.gst.wk.id, .int .i64 x.gst.wk.at_, .int .i64 x.gst.wk.coins, .int .i64 x.gst.wk.seq, .int .i64 x.gst.wk.last]] w (MadeGwyB w (ghL m xs s x).length (ghL m xs s x) (ghB m xs s x)) := by
  have H0 := hid h0
  have L0 := hid h0.len
  clear h0
  cases h : gwyOk m xs with
  | false =>
    have HO9 := hid (show ghOk m xs s x = false by rw [ghOk, h]; rfl)
    go_enter Try.func21, Try.ntmps21
    try go_wp2_with (first
        | (go_at_call 56; (with_reducible refine (iGwyOk_c _ _ _ _ _ _ (H0.out.of (by ((try simp only [ext_drew]); (try simp only [ext_ext]); repeat (first | exact Ext.refl _ | with_reducible apply Ext.add | with_reducible apply Ext.dr | apply Ext.alloc | apply Ext.ext | apply Ext.drew | refine Ext.trans ?_ (by assumption))))) (by omega)).mono ?_); rintro e w' ⟨rfl, ta, rfl⟩)
        | (
          with_reducible refine wp_region_mix (by kernel_rfl) (by decide +kernel) ?_
          repeat (first
            | (refine mix_pure rfl ?_; (first | go_big_quiet_skip | (go_big_quiet_want; go_big_quiet_op; go_big_quiet_on)); refine wpQuiet_nil ?_)
            | (refine mix_skip (by rfl) ?_; (try simp only [Act.put, List.setIfInBounds_toArray, List.set_cons_zero, List.set_cons_succ]))
            | (refine mix_mk rfl (by rfl) (fun K hK => ?_); (first | (go_simp; first | (go_at_call 56; (with_reducible refine (iGwyOk_c _ _ _ _ _ _ (H0.out.of (by ((try simp only [ext_drew]); (try simp only [ext_ext]); repeat (first | exact Ext.refl _ | with_reducible apply Ext.add | with_reducible apply Ext.dr | apply Ext.alloc | apply Ext.ext | apply Ext.drew | refine Ext.trans ?_ (by assumption))))) (by omega)).mono ?_); rintro e w' ⟨rfl, ta, rfl⟩) | skip)); (show K _ _); refine hK _ _ (show Ext _ _ from (by ((try simp only [ext_drew]); (try simp only [ext_ext]); repeat (first | exact Ext.refl _ | with_reducible apply Ext.add | with_reducible apply Ext.dr | apply Ext.alloc | apply Ext.ext | apply Ext.drew | refine Ext.trans ?_ (by assumption))))) ?_; clear hK K; (try simp only [Act.put, List.setIfInBounds_toArray, List.set_cons_zero, List.set_cons_succ])))
          refine mix_nil ?_)
        | (
          with_reducible refine wp_region_ext (by kernel_rfl) (by kernel_rfl) ?_
          repeat (first | go_big_quiet_skip | (go_big_quiet_want; go_big_quiet_op; first | go_big_quiet_on | (apply Exists.intro; refine ⟨fun _ => ?_, ?_⟩; (fail); (try rw [h1]); (try rw [h2]); (try rw [h3]); (try rw [h4]); (try rw [p1]); (try rw [p2]); (try rw [p3]); (try rw [p4]); (try rw [r1]); (try rw [r2]); (try rw [r3]); (try rw [r4]); (try rw [r5]); (try rw [r6]); (try rw [q3]); (try rw [q4]); (try rw [hp]); (try rw [hq]); go_big_quiet_on)))
          refine wpQuiet_nil ?_
          rintro _ ⟨tq, rfl⟩))
    refine bodyPost_ret (v := .tuple #[.agg #[.slice none 0 0], .bool false]) (by simp [results, Try.results21, go_sem]) rfl ?_
    rw [show ghL m xs s x = [] by rw [ghL, if_neg (by rw [HO9.out]; decide)], show ghB m xs s x = false by rw [ghB, HO9.out]; rfl]
    refine ⟨_, _, rfl, (by ((try simp only [ext_drew]); (try simp only [ext_ext]); repeat (first | exact Ext.refl _ | with_reducible apply Ext.add | with_reducible apply Ext.dr | apply Ext.alloc | apply Ext.ext | apply Ext.drew | refine Ext.trans ?_ (by assumption)))), ?_⟩
    exact ⟨Nat.le_refl _, [], by simp, by simp, own_Gwy_nil _⟩
  | true =>
    cases h9 : msgOk m s x with
    | false =>
      have HO9 := hid (show ghOk m xs s x = false by rw [ghOk, h, h9]; rfl)
      go_enter Try.func21, Try.ntmps21
      try go_wp2_with (first
          | (go_at_call 56; (with_reducible refine (iGwyOk_c _ _ _ _ _ _ (H0.out.of (by ((try simp only [ext_drew]); (try simp only [ext_ext]); repeat (first | exact Ext.refl _ | with_reducible apply Ext.add | with_reducible apply Ext.dr | apply Ext.alloc | apply Ext.ext | apply Ext.drew | refine Ext.trans ?_ (by assumption))))) (by omega)).mono ?_); rintro e w' ⟨rfl, ta, rfl⟩) | (go_at_call 10; (with_reducible refine (iMsgOk_c m s x _).mono ?_); rintro e w' ⟨rfl, tb, rfl⟩) | ((with_reducible refine load_gateG (T1 := 44) ?_); refine wpList_loadG (by rfl) _ _ rfl (w.heap.size + 1 + 1) #[.int .i64 x.kind, .int .i64 x.to_, .int .i64 x.cell, .int .i64 x.side, .int .i64 x.n, .int .i64 x.ord.who, .int .i64 x.ord.seq, .int .i64 x.ord.kind, .int .i64 x.ord.to_, .int .i64 x.ord.n, .int .i64 x.pcl.n, .int .i64 x.pcl.kind, .int .i64 x.pcl.wk.id, .int .i64 x.pcl.wk.at_, .int .i64 x.pcl.wk.coins, .int .i64 x.pcl.wk.seq, .int .i64 x.pcl.wk.last, .int .i64 x.pcl.coins, .int .i64 x.gst.src, .int .i64 x.gst.count, .int .i64 x.gst.wk.id, .int .i64 x.gst.wk.at_, .int .i64 x.gst.wk.coins, .int .i64 x.gst.wk.seq, .int .i64 x.gst.wk.last] 44 _ rfl (by (repeat (first | with_reducible refine blk_ext ?_ | with_reducible apply blk_drew)); exact blk_alloc (alloc_last (by (try simp [go_sem]) <;> (try simp [Xt.add]) <;> omega))) Try.underlying44 rfl (by kernel_rfl) ?_)
          | (
            with_reducible refine wp_region_mix (by kernel_rfl) (by decide +kernel) ?_
            repeat (first
              | (refine mix_pure rfl ?_; (first | go_big_quiet_skip | (go_big_quiet_want; go_big_quiet_op; go_big_quiet_on)); refine wpQuiet_nil ?_)
              | (refine mix_skip (by rfl) ?_; (try simp only [Act.put, List.setIfInBounds_toArray, List.set_cons_zero, List.set_cons_succ]))
              | (refine mix_mk rfl (by rfl) (fun K hK => ?_); (first | (go_simp; first | (go_at_call 56; (with_reducible refine (iGwyOk_c _ _ _ _ _ _ (H0.out.of (by ((try simp only [ext_drew]); (try simp only [ext_ext]); repeat (first | exact Ext.refl _ | with_reducible apply Ext.add | with_reducible apply Ext.dr | apply Ext.alloc | apply Ext.ext | apply Ext.drew | refine Ext.trans ?_ (by assumption))))) (by omega)).mono ?_); rintro e w' ⟨rfl, ta, rfl⟩) | (go_at_call 10; (with_reducible refine (iMsgOk_c m s x _).mono ?_); rintro e w' ⟨rfl, tb, rfl⟩) | ((with_reducible refine load_gateG (T1 := 44) ?_); refine wpList_loadG (by rfl) _ _ rfl (w.heap.size + 1 + 1) #[.int .i64 x.kind, .int .i64 x.to_, .int .i64 x.cell, .int .i64 x.side, .int .i64 x.n, .int .i64 x.ord.who, .int .i64 x.ord.seq, .int .i64 x.ord.kind, .int .i64 x.ord.to_, .int .i64 x.ord.n, .int .i64 x.pcl.n, .int .i64 x.pcl.kind, .int .i64 x.pcl.wk.id, .int .i64 x.pcl.wk.at_, .int .i64 x.pcl.wk.coins, .int .i64 x.pcl.wk.seq, .int .i64 x.pcl.wk.last, .int .i64 x.pcl.coins, .int .i64 x.gst.src, .int .i64 x.gst.count, .int .i64 x.gst.wk.id, .int .i64 x.gst.wk.at_, .int .i64 x.gst.wk.coins, .int .i64 x.gst.wk.seq, .int .i64 x.gst.wk.last] 44 _ rfl (by (repeat (first | with_reducible refine blk_ext ?_ | with_reducible apply blk_drew)); exact blk_alloc (alloc_last (by (try simp [go_sem]) <;> (try simp [Xt.add]) <;> omega))) Try.underlying44 rfl (by kernel_rfl) ?_) | skip)); (show K _ _); refine hK _ _ (show Ext _ _ from (by ((try simp only [ext_drew]); (try simp only [ext_ext]); repeat (first | exact Ext.refl _ | with_reducible apply Ext.add | with_reducible apply Ext.dr | apply Ext.alloc | apply Ext.ext | apply Ext.drew | refine Ext.trans ?_ (by assumption))))) ?_; clear hK K; (try simp only [Act.put, List.setIfInBounds_toArray, List.set_cons_zero, List.set_cons_succ])))
            refine mix_nil ?_)
          | (
            with_reducible refine wp_region_ext (by kernel_rfl) (by kernel_rfl) ?_
            repeat (first | go_big_quiet_skip | (go_big_quiet_want; go_big_quiet_op; first | go_big_quiet_on | (apply Exists.intro; refine ⟨fun _ => ?_, ?_⟩; (fail); (try rw [h1]); (try rw [h2]); (try rw [h3]); (try rw [h4]); (try rw [p1]); (try rw [p2]); (try rw [p3]); (try rw [p4]); (try rw [r1]); (try rw [r2]); (try rw [r3]); (try rw [r4]); (try rw [r5]); (try rw [r6]); (try rw [q3]); (try rw [q4]); (try rw [hp]); (try rw [hq]); go_big_quiet_on)))
            refine wpQuiet_nil ?_
            rintro _ ⟨tq, rfl⟩))
      refine bodyPost_ret (v := .tuple #[.agg #[.slice none 0 0], .bool false]) (by simp [results, Try.results21, go_sem]) rfl ?_
      rw [show ghL m xs s x = [] by rw [ghL, if_neg (by rw [HO9.out]; decide)], show ghB m xs s x = false by rw [ghB, HO9.out]; rfl]
      refine ⟨_, _, rfl, (by ((try simp only [ext_drew]); (try simp only [ext_ext]); repeat (first | exact Ext.refl _ | with_reducible apply Ext.add | with_reducible apply Ext.dr | apply Ext.alloc | apply Ext.ext | apply Ext.drew | refine Ext.trans ?_ (by assumption)))), ?_⟩
      exact ⟨Nat.le_refl _, [], by simp, by simp, own_Gwy_nil _⟩
    | true =>
      have F := gwyOk_facts h
      have p1 := F.1
      have HS := hid (gwyOk_cells h)
      have HO9 := hid (show ghOk m xs s x = true by rw [ghOk, h, h9]; rfl)
      have E0 := hid (show ghL m xs s x = hearL m xs x by rw [ghL, if_pos HO9.out])
      have EB := hid (show ghB m xs s x = hearB xs x by rw [ghB, HO9.out]; rfl)
      have LE := hid (show (ghL m xs s x).length = n by rw [E0.out, hearL_len]; exact L0.out.symm)
      clear F
      rw [LE.out, E0.out, EB.out]
      go_enter Try.func21, Try.ntmps21
      try go_wp2_with (first
          | (go_at_call 56; (with_reducible refine (iGwyOk_c _ _ _ _ _ _ (H0.out.of (by ((try simp only [ext_drew]); (try simp only [ext_ext]); repeat (first | exact Ext.refl _ | with_reducible apply Ext.add | with_reducible apply Ext.dr | apply Ext.alloc | apply Ext.ext | apply Ext.drew | refine Ext.trans ?_ (by assumption))))) (by omega)).mono ?_); rintro e w' ⟨rfl, ta, rfl⟩) | (go_at_call 10; (with_reducible refine (iMsgOk_c m s x _).mono ?_); rintro e w' ⟨rfl, tb, rfl⟩) | (go_at_call 65; (with_reducible refine (gwyClone_c xs a c n _ (H0.out.of (by ((try simp only [ext_drew]); (try simp only [ext_ext]); repeat (first | exact Ext.refl _ | with_reducible apply Ext.add | with_reducible apply Ext.dr | apply Ext.alloc | apply Ext.ext | apply Ext.drew | refine Ext.trans ?_ (by assumption))))) b0).mono ?_); rintro e w' ⟨p0, q0, rfl, ⟨t0, rfl⟩, ho⟩; have O := hid ho; clear ho) | ((with_reducible refine load_gateG (T1 := 44) ?_); refine wpList_loadG (by rfl) _ _ rfl (w.heap.size + 1 + 1) #[.int .i64 x.kind, .int .i64 x.to_, .int .i64 x.cell, .int .i64 x.side, .int .i64 x.n, .int .i64 x.ord.who, .int .i64 x.ord.seq, .int .i64 x.ord.kind, .int .i64 x.ord.to_, .int .i64 x.ord.n, .int .i64 x.pcl.n, .int .i64 x.pcl.kind, .int .i64 x.pcl.wk.id, .int .i64 x.pcl.wk.at_, .int .i64 x.pcl.wk.coins, .int .i64 x.pcl.wk.seq, .int .i64 x.pcl.wk.last, .int .i64 x.pcl.coins, .int .i64 x.gst.src, .int .i64 x.gst.count, .int .i64 x.gst.wk.id, .int .i64 x.gst.wk.at_, .int .i64 x.gst.wk.coins, .int .i64 x.gst.wk.seq, .int .i64 x.gst.wk.last] 44 _ rfl (by (repeat (first | with_reducible refine blk_ext ?_ | with_reducible apply blk_drew)); exact blk_alloc (alloc_last (by (try simp [go_sem]) <;> (try simp [Xt.add]) <;> omega))) Try.underlying44 rfl (by kernel_rfl) ?_) | ((with_reducible refine load_gate (T1 := 44) ?_); refine wpList_loadW rfl _ _ rfl (w.heap.size + 1 + 1) #[.int .i64 x.kind, .int .i64 x.to_, .int .i64 x.cell, .int .i64 x.side, .int .i64 x.n, .int .i64 x.ord.who, .int .i64 x.ord.seq, .int .i64 x.ord.kind, .int .i64 x.ord.to_, .int .i64 x.ord.n, .int .i64 x.pcl.n, .int .i64 x.pcl.kind, .int .i64 x.pcl.wk.id, .int .i64 x.pcl.wk.at_, .int .i64 x.pcl.wk.coins, .int .i64 x.pcl.wk.seq, .int .i64 x.pcl.wk.last, .int .i64 x.pcl.coins, .int .i64 x.gst.src, .int .i64 x.gst.count, .int .i64 x.gst.wk.id, .int .i64 x.gst.wk.at_, .int .i64 x.gst.wk.coins, .int .i64 x.gst.wk.seq, .int .i64 x.gst.wk.last] 44 _ rfl (blk_alloc (blk_ext (blk_alloc (alloc_last (by (try simp [go_sem]) <;> (try simp [Xt.add]) <;> omega))))) Try.underlying44 rfl (by kernel_rfl) ?_)
          | (
            with_reducible refine wp_region_mix (by kernel_rfl) (by decide +kernel) ?_
            repeat (first
              | (refine mix_pure rfl ?_; (first | go_big_quiet_skip | (go_big_quiet_want; go_big_quiet_op; go_big_quiet_on)); refine wpQuiet_nil ?_)
              | (refine mix_skip (by rfl) ?_; (try simp only [Act.put, List.setIfInBounds_toArray, List.set_cons_zero, List.set_cons_succ]))
              | (refine mix_mk rfl (by rfl) (fun K hK => ?_); (first | (go_simp; first | (go_at_call 56; (with_reducible refine (iGwyOk_c _ _ _ _ _ _ (H0.out.of (by ((try simp only [ext_drew]); (try simp only [ext_ext]); repeat (first | exact Ext.refl _ | with_reducible apply Ext.add | with_reducible apply Ext.dr | apply Ext.alloc | apply Ext.ext | apply Ext.drew | refine Ext.trans ?_ (by assumption))))) (by omega)).mono ?_); rintro e w' ⟨rfl, ta, rfl⟩) | (go_at_call 10; (with_reducible refine (iMsgOk_c m s x _).mono ?_); rintro e w' ⟨rfl, tb, rfl⟩) | (go_at_call 65; (with_reducible refine (gwyClone_c xs a c n _ (H0.out.of (by ((try simp only [ext_drew]); (try simp only [ext_ext]); repeat (first | exact Ext.refl _ | with_reducible apply Ext.add | with_reducible apply Ext.dr | apply Ext.alloc | apply Ext.ext | apply Ext.drew | refine Ext.trans ?_ (by assumption))))) b0).mono ?_); rintro e w' ⟨p0, q0, rfl, ⟨t0, rfl⟩, ho⟩; have O := hid ho; clear ho) | ((with_reducible refine load_gateG (T1 := 44) ?_); refine wpList_loadG (by rfl) _ _ rfl (w.heap.size + 1 + 1) #[.int .i64 x.kind, .int .i64 x.to_, .int .i64 x.cell, .int .i64 x.side, .int .i64 x.n, .int .i64 x.ord.who, .int .i64 x.ord.seq, .int .i64 x.ord.kind, .int .i64 x.ord.to_, .int .i64 x.ord.n, .int .i64 x.pcl.n, .int .i64 x.pcl.kind, .int .i64 x.pcl.wk.id, .int .i64 x.pcl.wk.at_, .int .i64 x.pcl.wk.coins, .int .i64 x.pcl.wk.seq, .int .i64 x.pcl.wk.last, .int .i64 x.pcl.coins, .int .i64 x.gst.src, .int .i64 x.gst.count, .int .i64 x.gst.wk.id, .int .i64 x.gst.wk.at_, .int .i64 x.gst.wk.coins, .int .i64 x.gst.wk.seq, .int .i64 x.gst.wk.last] 44 _ rfl (by (repeat (first | with_reducible refine blk_ext ?_ | with_reducible apply blk_drew)); exact blk_alloc (alloc_last (by (try simp [go_sem]) <;> (try simp [Xt.add]) <;> omega))) Try.underlying44 rfl (by kernel_rfl) ?_) | ((with_reducible refine load_gate (T1 := 44) ?_); refine wpList_loadW rfl _ _ rfl (w.heap.size + 1 + 1) #[.int .i64 x.kind, .int .i64 x.to_, .int .i64 x.cell, .int .i64 x.side, .int .i64 x.n, .int .i64 x.ord.who, .int .i64 x.ord.seq, .int .i64 x.ord.kind, .int .i64 x.ord.to_, .int .i64 x.ord.n, .int .i64 x.pcl.n, .int .i64 x.pcl.kind, .int .i64 x.pcl.wk.id, .int .i64 x.pcl.wk.at_, .int .i64 x.pcl.wk.coins, .int .i64 x.pcl.wk.seq, .int .i64 x.pcl.wk.last, .int .i64 x.pcl.coins, .int .i64 x.gst.src, .int .i64 x.gst.count, .int .i64 x.gst.wk.id, .int .i64 x.gst.wk.at_, .int .i64 x.gst.wk.coins, .int .i64 x.gst.wk.seq, .int .i64 x.gst.wk.last] 44 _ rfl (blk_alloc (blk_ext (blk_alloc (alloc_last (by (try simp [go_sem]) <;> (try simp [Xt.add]) <;> omega))))) Try.underlying44 rfl (by kernel_rfl) ?_) | skip)); (show K _ _); refine hK _ _ (show Ext _ _ from (by ((try simp only [ext_drew]); (try simp only [ext_ext]); repeat (first | exact Ext.refl _ | with_reducible apply Ext.add | with_reducible apply Ext.dr | apply Ext.alloc | apply Ext.ext | apply Ext.drew | refine Ext.trans ?_ (by assumption))))) ?_; clear hK K; (try simp only [Act.put, List.setIfInBounds_toArray, List.set_cons_zero, List.set_cons_succ])))
            refine mix_nil ?_)
          | (
            with_reducible refine wp_region_ext (by kernel_rfl) (by kernel_rfl) ?_
            repeat (first | go_big_quiet_skip | (go_big_quiet_want; go_big_quiet_op; first | go_big_quiet_on | (apply Exists.intro; refine ⟨fun _ => ?_, ?_⟩; (fail); (try rw [h1]); (try rw [h2]); (try rw [h3]); (try rw [h4]); (try rw [p1]); (try rw [p2]); (try rw [p3]); (try rw [p4]); (try rw [r1]); (try rw [r2]); (try rw [r3]); (try rw [r4]); (try rw [r5]); (try rw [r6]); (try rw [q3]); (try rw [q4]); (try rw [hp]); (try rw [hq]); go_big_quiet_on)))
            refine wpQuiet_nil ?_
            rintro _ ⟨tq, rfl⟩))
      refine (hear_c m xs p0 n q0 _ _ _ x _ (O.out.of (by ((try simp only [ext_drew]); (try simp only [ext_ext]); repeat (first | exact Ext.refl _ | with_reducible apply Ext.add | with_reducible apply Ext.dr | apply Ext.alloc | apply Ext.ext | apply Ext.drew | refine Ext.trans ?_ (by assumption))))) (Nat.le_of_eq (by simp [go_sem])) (by (try simp [go_sem]) <;> (try simp [Xt.add]) <;> omega) (by simp [go_sem]) p1 HS.out b0).mono ?_
      rintro e w1 ⟨rfl, ho1, hc1⟩
      have g0 : w1.cell? ⟨w.heap.size + 1 + 1 + 1, 0, none⟩ = some (.slice none 0 0) := (hc1.cell (by (try simp [go_sem]) <;> (try simp [Xt.add]) <;> omega) (.inl (by (try simp [go_sem]) <;> (try simp [Xt.add]) <;> omega)) 0).trans (by simp [go_sem])
      have z0 : w1.frozen? ⟨w.heap.size + 1 + 1 + 1, 0, none⟩ = false := (hc1.frozen (by (try simp [go_sem]) <;> (try simp [Xt.add]) <;> omega) (.inl (by (try simp [go_sem]) <;> (try simp [Xt.add]) <;> omega)) 0).trans (by simp [go_sem])
      have e0 : w1.cell? ⟨w.heap.size + 1 + 1 + 1 + 1 + ((ta.add tb).add t0).bs.size, 0, none⟩ = some (.slice p0 n q0) := (hc1.cell (by (try simp [go_sem]) <;> (try simp [Xt.add]) <;> omega) (.inr (by (try simp [go_sem]) <;> (try simp [Xt.add]) <;> omega)) 0).trans (by simp [go_sem])
      have HC := hid hc1
      have HO := hid ho1
      clear hc1 ho1
      try go_wp2_with (first
          | fail
          | (
            with_reducible refine wp_region_mix (by kernel_rfl) (by decide +kernel) ?_
            repeat (first
              | (refine mix_pure rfl ?_; (first | go_big_quiet_skip | (go_big_quiet_want; go_big_quiet_op; go_big_quiet_on)); refine wpQuiet_nil ?_)
              | (refine mix_skip (by rfl) ?_; (try simp only [Act.put, List.setIfInBounds_toArray, List.set_cons_zero, List.set_cons_succ]))
              | (refine mix_mk rfl (by rfl) (fun K hK => ?_); (first | (go_simp; first | skip)); (show K _ _); refine hK _ _ (show Ext _ _ from (by ((try simp only [ext_drew]); (try simp only [ext_ext]); repeat (first | exact Ext.refl _ | with_reducible apply Ext.add | with_reducible apply Ext.dr | apply Ext.alloc | apply Ext.ext | apply Ext.drew | refine Ext.trans ?_ (by assumption))))) ?_; clear hK K; (try simp only [Act.put, List.setIfInBounds_toArray, List.set_cons_zero, List.set_cons_succ])))
            refine mix_nil ?_)
          | (
            with_reducible refine wp_region_ext (by kernel_rfl) (by kernel_rfl) ?_
            repeat (first | go_big_quiet_skip | (go_big_quiet_want; go_big_quiet_op; first | go_big_quiet_on | (apply Exists.intro; refine ⟨fun _ => ?_, ?_⟩; (fail); (try rw [h1]); (try rw [h2]); (try rw [h3]); (try rw [h4]); (try rw [p1]); (try rw [p2]); (try rw [p3]); (try rw [p4]); (try rw [r1]); (try rw [r2]); (try rw [r3]); (try rw [r4]); (try rw [r5]); (try rw [r6]); (try rw [q3]); (try rw [q4]); (try rw [hp]); (try rw [hq]); go_big_quiet_on)))
            refine wpQuiet_nil ?_
            rintro _ ⟨tq, rfl⟩))
      refine bodyPost_ret (v := .tuple #[.agg #[.slice p0 n q0], .bool (hearB xs x)]) (by simp [results, Try.results21, go_sem, g0, e0]) rfl ?_
      refine ⟨_, _, rfl, ?_⟩
      exact fin_res (w := w) (by ((try simp only [ext_drew]); (try simp only [ext_ext]); repeat (first | exact Ext.refl _ | with_reducible apply Ext.add | with_reducible apply Ext.dr | apply Ext.alloc | apply Ext.ext | apply Ext.drew | refine Ext.trans ?_ (by assumption)))) HC.out HO.out (R := w.heap.size + 1 + 1 + 1) (by (try simp [go_sem]) <;> (try simp [Xt.add]) <;> omega) (by (try simp [go_sem]) <;> (try simp [Xt.add]) <;> omega) (by repeat (first | with_reducible exact Chg.refl _ _ | with_reducible apply Chg.drew | with_reducible apply Chg.drewl | with_reducible refine Chg.turn (by simp) | with_reducible refine Chg.both ?_ (by simp) | (with_reducible refine Chg.set ?_ (by simp) _) | with_reducible apply Chg.alloc | with_reducible apply Chg.ext))
end Go.Proofs.Ytnfodkhfoegnaaa

namespace Go.Proofs.Ytnfodkhfoegnaaa
open Go.RowKit
set_option linter.unusedSimpArgs false
set_option linter.unusedVariables false

set_option maxRecDepth 100000 in
set_option maxHeartbeats 4000000 in
theorem sGwyHear_c (m : Mp) (xs : List Row) (s : Int) (x : Msg) (a : Option Addr) (n c : Nat) (w : World) (h0 : Re w (.sl sRow) [.slice a n c] (.l (xs.map Row.dat))) (b0 : n ≤ 1048576) :
    Calls Try.prog 20 #[.agg #[.int .i64 m.c, .int .i64 m.w], .agg #[.slice a n c], .int .i64 s, .agg #[.int .i64 x.kind, .int .i64 x.to_, .int .i64 x.cell, .int .i64 x.side, .int .i64 x.n, .int .i64 x.ord.who, .int .i64 x.ord.seq, .int .i64 x.ord.kind, .int .i64 x.ord.to_, .int .i64 x.ord.n, .int .i64 x.pcl.n, .int .i64 x.pcl.kind, .int .i64 x.pcl.wk.id, .int .i64 x.pcl.wk.at_, .int .i64 x.pcl.wk.coins, .int .i64 x.pcl.wk.seq, .int .i64 x.pcl.wk.last, .int .i64 x.pcl.coins, .int .i64 x.gst.src, .int .i64 x.gst.count, .int .i64 x.gst.wk.id, .int .i64 x.gst.wk.at_, .int .i64 x.gst.wk.coins, .int .i64 x.gst.wk.seq, .int .i64 x.gst.wk.last]] w (MadeGwyB w (ghL m xs s x).length (ghL m xs s x) (ghB m xs s x)) := by
  have H0 := hid h0
  have L0 := hid h0.len
  clear h0
  cases h : gwyOk m xs with
  | false =>
    have HO9 := hid (show ghOk m xs s x = false by rw [ghOk, h]; rfl)
    go_enter Try.func20, Try.ntmps20
    try go_wp2_with (first
        | (go_at_call 50; (with_reducible refine (sGwyOk_c _ _ _ _ _ _ (H0.out.of (by ((try simp only [ext_drew]); (try simp only [ext_ext]); repeat (first | exact Ext.refl _ | with_reducible apply Ext.add | with_reducible apply Ext.dr | apply Ext.alloc | apply Ext.ext | apply Ext.drew | refine Ext.trans ?_ (by assumption))))) (by omega)).mono ?_); rintro e w' ⟨rfl, ta, rfl⟩)
        | (
          with_reducible refine wp_region_mix (by kernel_rfl) (by decide +kernel) ?_
          repeat (first
            | (refine mix_pure rfl ?_; (first | go_big_quiet_skip | (go_big_quiet_want; go_big_quiet_op; go_big_quiet_on)); refine wpQuiet_nil ?_)
            | (refine mix_skip (by rfl) ?_; (try simp only [Act.put, List.setIfInBounds_toArray, List.set_cons_zero, List.set_cons_succ]))
            | (refine mix_mk rfl (by rfl) (fun K hK => ?_); (first | (go_simp; first | (go_at_call 50; (with_reducible refine (sGwyOk_c _ _ _ _ _ _ (H0.out.of (by ((try simp only [ext_drew]); (try simp only [ext_ext]); repeat (first | exact Ext.refl _ | with_reducible apply Ext.add | with_reducible apply Ext.dr | apply Ext.alloc | apply Ext.ext | apply Ext.drew | refine Ext.trans ?_ (by assumption))))) (by omega)).mono ?_); rintro e w' ⟨rfl, ta, rfl⟩) | skip)); (show K _ _); refine hK _ _ (show Ext _ _ from (by ((try simp only [ext_drew]); (try simp only [ext_ext]); repeat (first | exact Ext.refl _ | with_reducible apply Ext.add | with_reducible apply Ext.dr | apply Ext.alloc | apply Ext.ext | apply Ext.drew | refine Ext.trans ?_ (by assumption))))) ?_; clear hK K; (try simp only [Act.put, List.setIfInBounds_toArray, List.set_cons_zero, List.set_cons_succ])))
          refine mix_nil ?_)
        | (
          with_reducible refine wp_region_ext (by kernel_rfl) (by kernel_rfl) ?_
          repeat (first | go_big_quiet_skip | (go_big_quiet_want; go_big_quiet_op; first | go_big_quiet_on | (apply Exists.intro; refine ⟨fun _ => ?_, ?_⟩; (fail); (try rw [h1]); (try rw [h2]); (try rw [h3]); (try rw [h4]); (try rw [p1]); (try rw [p2]); (try rw [p3]); (try rw [p4]); (try rw [r1]); (try rw [r2]); (try rw [r3]); (try rw [r4]); (try rw [r5]); (try rw [r6]); (try rw [q3]); (try rw [q4]); (try rw [hp]); (try rw [hq]); go_big_quiet_on)))
          refine wpQuiet_nil ?_
          rintro _ ⟨tq, rfl⟩))
    refine bodyPost_ret (v := .tuple #[.agg #[.slice none 0 0], .bool false]) (by simp [results, Try.results20, go_sem]) rfl ?_
    rw [show ghL m xs s x = [] by rw [ghL, if_neg (by rw [HO9.out]; decide)], show ghB m xs s x = false by rw [ghB, HO9.out]; rfl]
    refine ⟨_, _, rfl, (by ((try simp only [ext_drew]); (try simp only [ext_ext]); repeat (first | exact Ext.refl _ | with_reducible apply Ext.add | with_reducible apply Ext.dr | apply Ext.alloc | apply Ext.ext | apply Ext.drew | refine Ext.trans ?_ (by assumption)))), ?_⟩
    exact ⟨Nat.le_refl _, [], by simp, by simp, own_Gwy_nil _⟩
  | true =>
    cases h9 : msgOk m s x with
    | false =>
      have HO9 := hid (show ghOk m xs s x = false by rw [ghOk, h, h9]; rfl)
      go_enter Try.func20, Try.ntmps20
      try go_wp2_with (first
          | (go_at_call 50; (with_reducible refine (sGwyOk_c _ _ _ _ _ _ (H0.out.of (by ((try simp only [ext_drew]); (try simp only [ext_ext]); repeat (first | exact Ext.refl _ | with_reducible apply Ext.add | with_reducible apply Ext.dr | apply Ext.alloc | apply Ext.ext | apply Ext.drew | refine Ext.trans ?_ (by assumption))))) (by omega)).mono ?_); rintro e w' ⟨rfl, ta, rfl⟩) | (go_at_call 7; (with_reducible refine (sMsgOk_c m s x _).mono ?_); rintro e w' ⟨rfl, tb, rfl⟩) | ((with_reducible refine load_gateG (T1 := 44) ?_); refine wpList_loadG (by rfl) _ _ rfl (w.heap.size + 1 + 1) #[.int .i64 x.kind, .int .i64 x.to_, .int .i64 x.cell, .int .i64 x.side, .int .i64 x.n, .int .i64 x.ord.who, .int .i64 x.ord.seq, .int .i64 x.ord.kind, .int .i64 x.ord.to_, .int .i64 x.ord.n, .int .i64 x.pcl.n, .int .i64 x.pcl.kind, .int .i64 x.pcl.wk.id, .int .i64 x.pcl.wk.at_, .int .i64 x.pcl.wk.coins, .int .i64 x.pcl.wk.seq, .int .i64 x.pcl.wk.last, .int .i64 x.pcl.coins, .int .i64 x.gst.src, .int .i64 x.gst.count, .int .i64 x.gst.wk.id, .int .i64 x.gst.wk.at_, .int .i64 x.gst.wk.coins, .int .i64 x.gst.wk.seq, .int .i64 x.gst.wk.last] 44 _ rfl (by (repeat (first | with_reducible refine blk_ext ?_ | with_reducible apply blk_drew)); exact blk_alloc (alloc_last (by (try simp [go_sem]) <;> (try simp [Xt.add]) <;> omega))) Try.underlying44 rfl (by kernel_rfl) ?_)
          | (
            with_reducible refine wp_region_mix (by kernel_rfl) (by decide +kernel) ?_
            repeat (first
              | (refine mix_pure rfl ?_; (first | go_big_quiet_skip | (go_big_quiet_want; go_big_quiet_op; go_big_quiet_on)); refine wpQuiet_nil ?_)
              | (refine mix_skip (by rfl) ?_; (try simp only [Act.put, List.setIfInBounds_toArray, List.set_cons_zero, List.set_cons_succ]))
              | (refine mix_mk rfl (by rfl) (fun K hK => ?_); (first | (go_simp; first | (go_at_call 50; (with_reducible refine (sGwyOk_c _ _ _ _ _ _ (H0.out.of (by ((try simp only [ext_drew]); (try simp only [ext_ext]); repeat (first | exact Ext.refl _ | with_reducible apply Ext.add | with_reducible apply Ext.dr | apply Ext.alloc | apply Ext.ext | apply Ext.drew | refine Ext.trans ?_ (by assumption))))) (by omega)).mono ?_); rintro e w' ⟨rfl, ta, rfl⟩) | (go_at_call 7; (with_reducible refine (sMsgOk_c m s x _).mono ?_); rintro e w' ⟨rfl, tb, rfl⟩) | ((with_reducible refine load_gateG (T1 := 44) ?_); refine wpList_loadG (by rfl) _ _ rfl (w.heap.size + 1 + 1) #[.int .i64 x.kind, .int .i64 x.to_, .int .i64 x.cell, .int .i64 x.side, .int .i64 x.n, .int .i64 x.ord.who, .int .i64 x.ord.seq, .int .i64 x.ord.kind, .int .i64 x.ord.to_, .int .i64 x.ord.n, .int .i64 x.pcl.n, .int .i64 x.pcl.kind, .int .i64 x.pcl.wk.id, .int .i64 x.pcl.wk.at_, .int .i64 x.pcl.wk.coins, .int .i64 x.pcl.wk.seq, .int .i64 x.pcl.wk.last, .int .i64 x.pcl.coins, .int .i64 x.gst.src, .int .i64 x.gst.count, .int .i64 x.gst.wk.id, .int .i64 x.gst.wk.at_, .int .i64 x.gst.wk.coins, .int .i64 x.gst.wk.seq, .int .i64 x.gst.wk.last] 44 _ rfl (by (repeat (first | with_reducible refine blk_ext ?_ | with_reducible apply blk_drew)); exact blk_alloc (alloc_last (by (try simp [go_sem]) <;> (try simp [Xt.add]) <;> omega))) Try.underlying44 rfl (by kernel_rfl) ?_) | skip)); (show K _ _); refine hK _ _ (show Ext _ _ from (by ((try simp only [ext_drew]); (try simp only [ext_ext]); repeat (first | exact Ext.refl _ | with_reducible apply Ext.add | with_reducible apply Ext.dr | apply Ext.alloc | apply Ext.ext | apply Ext.drew | refine Ext.trans ?_ (by assumption))))) ?_; clear hK K; (try simp only [Act.put, List.setIfInBounds_toArray, List.set_cons_zero, List.set_cons_succ])))
            refine mix_nil ?_)
          | (
            with_reducible refine wp_region_ext (by kernel_rfl) (by kernel_rfl) ?_
            repeat (first | go_big_quiet_skip | (go_big_quiet_want; go_big_quiet_op; first | go_big_quiet_on | (apply Exists.intro; refine ⟨fun _ => ?_, ?_⟩; (fail); (try rw [h1]); (try rw [h2]); (try rw [h3]); (try rw [h4]); (try rw [p1]); (try rw [p2]); (try rw [p3]); (try rw [p4]); (try rw [r1]); (try rw [r2]); (try rw [r3]); (try rw [r4]); (try rw [r5]); (try rw [r6]); (try rw [q3]); (try rw [q4]); (try rw [hp]); (try rw [hq]); go_big_quiet_on)))
            refine wpQuiet_nil ?_
            rintro _ ⟨tq, rfl⟩))
      refine bodyPost_ret (v := .tuple #[.agg #[.slice none 0 0], .bool false]) (by simp [results, Try.results20, go_sem]) rfl ?_
      rw [show ghL m xs s x = [] by rw [ghL, if_neg (by rw [HO9.out]; decide)], show ghB m xs s x = false by rw [ghB, HO9.out]; rfl]
      refine ⟨_, _, rfl, (by ((try simp only [ext_drew]); (try simp only [ext_ext]); repeat (first | exact Ext.refl _ | with_reducible apply Ext.add | with_reducible apply Ext.dr | apply Ext.alloc | apply Ext.ext | apply Ext.drew | refine Ext.trans ?_ (by assumption)))), ?_⟩
      exact ⟨Nat.le_refl _, [], by simp, by simp, own_Gwy_nil _⟩
    | true =>
      have F := gwyOk_facts h
      have HS := hid (gwyOk_cells h)
      have HO9 := hid (show ghOk m xs s x = true by rw [ghOk, h, h9]; rfl)
      have E0 := hid (show ghL m xs s x = hearL m xs x by rw [ghL, if_pos HO9.out])
      have EB := hid (show ghB m xs s x = hearB xs x by rw [ghB, HO9.out]; rfl)
      have LE := hid (show (ghL m xs s x).length = n by rw [E0.out, hearL_len]; exact L0.out.symm)
      obtain ⟨⟨mc1, mc2⟩, _⟩ := plcOk_iff.1 F.1
      have mc0 : (m.c == 0) = false := by simp; omega
      clear F
      rw [LE.out, E0.out, EB.out]
      go_enter Try.func20, Try.ntmps20
      try go_wp2_with (first
          | (go_at_call 50; (with_reducible refine (sGwyOk_c _ _ _ _ _ _ (H0.out.of (by ((try simp only [ext_drew]); (try simp only [ext_ext]); repeat (first | exact Ext.refl _ | with_reducible apply Ext.add | with_reducible apply Ext.dr | apply Ext.alloc | apply Ext.ext | apply Ext.drew | refine Ext.trans ?_ (by assumption))))) (by omega)).mono ?_); rintro e w' ⟨rfl, ta, rfl⟩) | (go_at_call 7; (with_reducible refine (sMsgOk_c m s x _).mono ?_); rintro e w' ⟨rfl, tb, rfl⟩) | (go_at_call 64; (with_reducible refine (l12Copy_c xs a c n _ (H0.out.of (by ((try simp only [ext_drew]); (try simp only [ext_ext]); repeat (first | exact Ext.refl _ | with_reducible apply Ext.add | with_reducible apply Ext.dr | apply Ext.alloc | apply Ext.ext | apply Ext.drew | refine Ext.trans ?_ (by assumption))))) b0).mono ?_); rintro e w' ⟨p0, q0, rfl, ⟨t0, rfl⟩, ho⟩; have O := hid ho; clear ho) | ((with_reducible refine load_gateG (T1 := 44) ?_); refine wpList_loadG (by rfl) _ _ rfl (w.heap.size + 1 + 1) #[.int .i64 x.kind, .int .i64 x.to_, .int .i64 x.cell, .int .i64 x.side, .int .i64 x.n, .int .i64 x.ord.who, .int .i64 x.ord.seq, .int .i64 x.ord.kind, .int .i64 x.ord.to_, .int .i64 x.ord.n, .int .i64 x.pcl.n, .int .i64 x.pcl.kind, .int .i64 x.pcl.wk.id, .int .i64 x.pcl.wk.at_, .int .i64 x.pcl.wk.coins, .int .i64 x.pcl.wk.seq, .int .i64 x.pcl.wk.last, .int .i64 x.pcl.coins, .int .i64 x.gst.src, .int .i64 x.gst.count, .int .i64 x.gst.wk.id, .int .i64 x.gst.wk.at_, .int .i64 x.gst.wk.coins, .int .i64 x.gst.wk.seq, .int .i64 x.gst.wk.last] 44 _ rfl (by (repeat (first | with_reducible refine blk_ext ?_ | with_reducible apply blk_drew)); exact blk_alloc (alloc_last (by (try simp [go_sem]) <;> (try simp [Xt.add]) <;> omega))) Try.underlying44 rfl (by kernel_rfl) ?_)
          | (
            with_reducible refine wp_region_mix (by kernel_rfl) (by decide +kernel) ?_
            repeat (first
              | (refine mix_pure rfl ?_; (first | go_big_quiet_skip | (go_big_quiet_want; go_big_quiet_op; go_big_quiet_on)); refine wpQuiet_nil ?_)
              | (refine mix_skip (by rfl) ?_; (try simp only [Act.put, List.setIfInBounds_toArray, List.set_cons_zero, List.set_cons_succ]))
              | (refine mix_mk rfl (by rfl) (fun K hK => ?_); (first | (go_simp; first | (go_at_call 50; (with_reducible refine (sGwyOk_c _ _ _ _ _ _ (H0.out.of (by ((try simp only [ext_drew]); (try simp only [ext_ext]); repeat (first | exact Ext.refl _ | with_reducible apply Ext.add | with_reducible apply Ext.dr | apply Ext.alloc | apply Ext.ext | apply Ext.drew | refine Ext.trans ?_ (by assumption))))) (by omega)).mono ?_); rintro e w' ⟨rfl, ta, rfl⟩) | (go_at_call 7; (with_reducible refine (sMsgOk_c m s x _).mono ?_); rintro e w' ⟨rfl, tb, rfl⟩) | (go_at_call 64; (with_reducible refine (l12Copy_c xs a c n _ (H0.out.of (by ((try simp only [ext_drew]); (try simp only [ext_ext]); repeat (first | exact Ext.refl _ | with_reducible apply Ext.add | with_reducible apply Ext.dr | apply Ext.alloc | apply Ext.ext | apply Ext.drew | refine Ext.trans ?_ (by assumption))))) b0).mono ?_); rintro e w' ⟨p0, q0, rfl, ⟨t0, rfl⟩, ho⟩; have O := hid ho; clear ho) | ((with_reducible refine load_gateG (T1 := 44) ?_); refine wpList_loadG (by rfl) _ _ rfl (w.heap.size + 1 + 1) #[.int .i64 x.kind, .int .i64 x.to_, .int .i64 x.cell, .int .i64 x.side, .int .i64 x.n, .int .i64 x.ord.who, .int .i64 x.ord.seq, .int .i64 x.ord.kind, .int .i64 x.ord.to_, .int .i64 x.ord.n, .int .i64 x.pcl.n, .int .i64 x.pcl.kind, .int .i64 x.pcl.wk.id, .int .i64 x.pcl.wk.at_, .int .i64 x.pcl.wk.coins, .int .i64 x.pcl.wk.seq, .int .i64 x.pcl.wk.last, .int .i64 x.pcl.coins, .int .i64 x.gst.src, .int .i64 x.gst.count, .int .i64 x.gst.wk.id, .int .i64 x.gst.wk.at_, .int .i64 x.gst.wk.coins, .int .i64 x.gst.wk.seq, .int .i64 x.gst.wk.last] 44 _ rfl (by (repeat (first | with_reducible refine blk_ext ?_ | with_reducible apply blk_drew)); exact blk_alloc (alloc_last (by (try simp [go_sem]) <;> (try simp [Xt.add]) <;> omega))) Try.underlying44 rfl (by kernel_rfl) ?_) | skip)); (show K _ _); refine hK _ _ (show Ext _ _ from (by ((try simp only [ext_drew]); (try simp only [ext_ext]); repeat (first | exact Ext.refl _ | with_reducible apply Ext.add | with_reducible apply Ext.dr | apply Ext.alloc | apply Ext.ext | apply Ext.drew | refine Ext.trans ?_ (by assumption))))) ?_; clear hK K; (try simp only [Act.put, List.setIfInBounds_toArray, List.set_cons_zero, List.set_cons_succ])))
            refine mix_nil ?_)
          | (
            with_reducible refine wp_region_ext (by kernel_rfl) (by kernel_rfl) ?_
            repeat (first | go_big_quiet_skip | (go_big_quiet_want; go_big_quiet_op; first | go_big_quiet_on | (apply Exists.intro; refine ⟨fun _ => ?_, ?_⟩; (fail); (try rw [h1]); (try rw [h2]); (try rw [h3]); (try rw [h4]); (try rw [p1]); (try rw [p2]); (try rw [p3]); (try rw [p4]); (try rw [r1]); (try rw [r2]); (try rw [r3]); (try rw [r4]); (try rw [r5]); (try rw [r6]); (try rw [q3]); (try rw [q4]); (try rw [hp]); (try rw [hq]); go_big_quiet_on)))
            refine wpQuiet_nil ?_
            rintro _ ⟨tq, rfl⟩))
      refine calls_gen fun W hW => ?_
      generalize hP : w.heap.size + 1 + 1 + 1 + 1 + ((ta.add tb).add t0).bs.size = P
      generalize hR0 : w.heap.size + 1 + 1 + 1 = R
      generalize hM0 : w.heap.size + 1 + 1 = M
      have hEW : Ext w W := by rw [hW]; ((try simp only [ext_drew]); (try simp only [ext_ext]); repeat (first | exact Ext.refl _ | with_reducible apply Ext.add | with_reducible apply Ext.dr | apply Ext.alloc | apply Ext.ext | apply Ext.drew | refine Ext.trans ?_ (by assumption)))
      have AW := hid (OwnR.of O.out (w' := W) (by rw [hW]; ((try simp only [ext_drew]); (try simp only [ext_ext]); repeat (first | exact Ext.refl _ | with_reducible apply Ext.add | with_reducible apply Ext.dr | apply Ext.alloc | apply Ext.ext | apply Ext.drew | refine Ext.trans ?_ (by assumption)))))
      have bR : W.heap[R]? = some (.cells #[.slice none 0 0] 59 (0, 0)) := by rw [← hR0, hW]; exact blk_alloc (blk_ext (alloc_last (by (try simp [go_sem]) <;> (try simp [Xt.add]) <;> omega)))
      have bP : W.heap[P]? = some (.cells #[.slice p0 n q0] 59 (0, 0)) := by rw [← hP, hW]; exact alloc_last (by (try simp [go_sem]) <;> (try simp [Xt.add]) <;> omega)
      have bM : W.heap[M]? = some (.cells #[.int .i64 x.kind, .int .i64 x.to_, .int .i64 x.cell, .int .i64 x.side, .int .i64 x.n, .int .i64 x.ord.who, .int .i64 x.ord.seq, .int .i64 x.ord.kind, .int .i64 x.ord.to_, .int .i64 x.ord.n, .int .i64 x.pcl.n, .int .i64 x.pcl.kind, .int .i64 x.pcl.wk.id, .int .i64 x.pcl.wk.at_, .int .i64 x.pcl.wk.coins, .int .i64 x.pcl.wk.seq, .int .i64 x.pcl.wk.last, .int .i64 x.pcl.coins, .int .i64 x.gst.src, .int .i64 x.gst.count, .int .i64 x.gst.wk.id, .int .i64 x.gst.wk.at_, .int .i64 x.gst.wk.coins, .int .i64 x.gst.wk.seq, .int .i64 x.gst.wk.last] 44 (0, 0)) := by rw [← hM0, hW]; exact blk_alloc (blk_ext (blk_alloc (alloc_last (by (try simp [go_sem]) <;> (try simp [Xt.add]) <;> omega))))
      have bm : W.heap[w.heap.size]? = some (.cells #[.int .i64 m.c, .int .i64 m.w] 35 (0, 0)) := by rw [hW]; exact blk_alloc (blk_ext (blk_alloc (blk_alloc (blk_alloc (alloc_last rfl)))))
      have cR : W.cell? ⟨R, 0, none⟩ = some (.slice none 0 0) := (cell_blk bR 0).trans rfl
      have zR : W.frozen? ⟨R, 0, none⟩ = false := frozen_blk bR 0
      have cP : W.cell? ⟨P, 0, none⟩ = some (.slice p0 n q0) := (cell_blk bP 0).trans rfl
      have cm : W.cell? ⟨w.heap.size, 0, none⟩ = some (.int .i64 m.c) := (cell_blk bm 0).trans rfl
      have cM0 : W.cell? ⟨M, 0, none⟩ = some (.int .i64 x.kind) := (cell_blk bM 0).trans rfl
      have cM2 : W.cell? ⟨M, 2, none⟩ = some (.int .i64 x.cell) := (cell_blk bM 2).trans rfl
      have cM4 : W.cell? ⟨M, 4, none⟩ = some (.int .i64 x.n) := (cell_blk bM 4).trans rfl
      have cM5 : W.cell? ⟨M, 5, none⟩ = some (.int .i64 x.ord.who) := (cell_blk bM 5).trans rfl
      have cM6 : W.cell? ⟨M, 6, none⟩ = some (.int .i64 x.ord.seq) := (cell_blk bM 6).trans rfl
      have cM7 : W.cell? ⟨M, 7, none⟩ = some (.int .i64 x.ord.kind) := (cell_blk bM 7).trans rfl
      have cM8 : W.cell? ⟨M, 8, none⟩ = some (.int .i64 x.ord.to_) := (cell_blk bM 8).trans rfl
      have cM9 : W.cell? ⟨M, 9, none⟩ = some (.int .i64 x.ord.n) := (cell_blk bM 9).trans rfl
      have lR : R < W.heap.size := lt_blk bR
      have lP : P < W.heap.size := lt_blk bP
      have lM : M < W.heap.size := lt_blk bM
      have lm : w.heap.size < W.heap.size := lt_blk bm
      have hRw : w.heap.size ≤ R := by omega
      have hMR : M ≠ R := by omega
      have hmR : w.heap.size ≠ R := by omega
      have HPD := hid hP
      have HRD := hid hR0
      have HMD := hid hM0
      clear hW O hP hR0 hM0 bR bP bM bm
      obtain ⟨hh, B, hn, hr, ho⟩ := id AW.out
      have O0 := own_Gwy_one ho
      clear ho
      have HO0 := hid O0
      have HH := hid hh
      have HND := hid hn
      have HR := hid hr
      have HX := hid (O0.re (fun b hb => Nat.lt_of_lt_of_le (hr b hb).2 hh))
      clear hh hn hr O0
      rcases place_lt (p := isWho x.ord.who) (xs := xs) (i := 0) with ⟨h1, h2⟩ | ⟨k, r, h1, h2, h3, h4⟩
      · have E := hid (hear_none (m := m) h2).1
        have E0' := hid (hear_none (m := m) h2).2
        have H1 : rowPlace xs x.ord.who = -1 := h1
        clear h1 h2
        try go_wp2_with (first
            | (go_at_call 52; refine (l12At_c _ _ _ _ _ _ (Re.of (Hid.out (by assumption)) (by ((try simp only [ext_drew]); (try simp only [ext_ext]); repeat (first | exact Ext.refl _ | with_reducible apply Ext.add | with_reducible apply Ext.dr | apply Ext.alloc | apply Ext.ext | apply Ext.drew | refine Ext.trans ?_ (by assumption))))) (by omega)).mono ?_; rintro e w' ⟨rfl, t, rfl⟩)
            | (
              with_reducible refine wp_region_mix (by kernel_rfl) (by decide +kernel) ?_
              repeat (first
                | (refine mix_pure rfl ?_; (first | go_big_quiet_skip | (go_big_quiet_want; go_big_quiet_op; go_big_quiet_on)); refine wpQuiet_nil ?_)
                | (refine mix_skip (by rfl) ?_; (try simp only [Act.put, List.setIfInBounds_toArray, List.set_cons_zero, List.set_cons_succ]))
                | (refine mix_mk rfl (by rfl) (fun K hK => ?_); (first | (go_simp; first | (go_at_call 52; refine (l12At_c _ _ _ _ _ _ (Re.of (Hid.out (by assumption)) (by ((try simp only [ext_drew]); (try simp only [ext_ext]); repeat (first | exact Ext.refl _ | with_reducible apply Ext.add | with_reducible apply Ext.dr | apply Ext.alloc | apply Ext.ext | apply Ext.drew | refine Ext.trans ?_ (by assumption))))) (by omega)).mono ?_; rintro e w' ⟨rfl, t, rfl⟩) | skip)); (show K _ _); refine hK _ _ (show Ext _ _ from (by ((try simp only [ext_drew]); (try simp only [ext_ext]); repeat (first | exact Ext.refl _ | with_reducible apply Ext.add | with_reducible apply Ext.dr | apply Ext.alloc | apply Ext.ext | apply Ext.drew | refine Ext.trans ?_ (by assumption))))) ?_; clear hK K; (try simp only [Act.put, List.setIfInBounds_toArray, List.set_cons_zero, List.set_cons_succ])))
              refine mix_nil ?_)
            | (
              with_reducible refine wp_region_ext (by kernel_rfl) (by kernel_rfl) ?_
              repeat (first | go_big_quiet_skip | (go_big_quiet_want; go_big_quiet_op; first | go_big_quiet_on | (apply Exists.intro; refine ⟨fun _ => ?_, ?_⟩; ((first | (go_at_call 52; first | exact quiet_call (l12At_c _ _ _ _ _ _ (Re.of (Hid.out (by assumption)) (by ((try simp only [ext_drew]); (try simp only [ext_ext]); repeat (first | exact Ext.refl _ | with_reducible apply Ext.add | with_reducible apply Ext.dr | apply Ext.alloc | apply Ext.ext | apply Ext.drew | refine Ext.trans ?_ (by assumption))))) (by omega)) | exact quiet_call2 (l12At_c _ _ _ _ _ _ (Re.of (Hid.out (by assumption)) (by ((try simp only [ext_drew]); (try simp only [ext_ext]); repeat (first | exact Ext.refl _ | with_reducible apply Ext.add | with_reducible apply Ext.dr | apply Ext.alloc | apply Ext.ext | apply Ext.drew | refine Ext.trans ?_ (by assumption))))) (by omega))))); (try rw [h1]); (try rw [h2]); (try rw [h3]); (try rw [h4]); (try rw [p1]); (try rw [p2]); (try rw [p3]); (try rw [p4]); (try rw [r1]); (try rw [r2]); (try rw [r3]); (try rw [r4]); (try rw [r5]); (try rw [r6]); (try rw [q3]); (try rw [q4]); (try rw [hp]); (try rw [hq]); go_big_quiet_on)))
              refine wpQuiet_nil ?_
              rintro _ ⟨tq, rfl⟩))
        refine bodyPost_ret (v := .tuple #[.agg #[.slice (p0) n q0], .bool false]) (by simp [results, Try.results20, go_sem, cP, cR, lR, lP]) rfl ?_
        refine ⟨_, _, by rw [E.out], ?_⟩
        rw [E0'.out]
        exact fin_same hEW AW.out (R := R) hRw (by have := HRD.out; rw [← this]; ((try simp [go_sem]) <;> (try simp [Xt.add]) <;> omega)) (by repeat (first | with_reducible exact Chg.refl _ _ | with_reducible apply Chg.drew | with_reducible apply Chg.drewl | with_reducible refine Chg.turn (by simp) | with_reducible refine Chg.both ?_ (by simp) | (with_reducible refine Chg.set ?_ (by simp) _) | with_reducible apply Chg.alloc | with_reducible apply Chg.ext))
      · have H1 : rowPlace xs x.ord.who = (k : Int) := by rw [rowPlace, h1]; simp
        have hk : k < n := by rw [HX.out.len]; exact (List.getElem?_eq_some_iff.1 h2).1
        have HA := hid (hear_some (m := m) h2 h3 h4 H1)
        have HSELF := hid (set_selfR h2)
        have hs := HS.out r (List.mem_of_getElem? h2)
        have hk1 : ((k : Int) == -1) = false := by simp
        obtain ⟨u, arr, T, y, rfl, rfl, hl, hy, hb, hsz, hcell, hput⟩ := own_at_Row HO0.out hk
        obtain rfl : r = y := Option.some.inj (h2.symm.trans hy)
        have hr0 := HR.out u (by simp)
        have hu0 : w.heap.size + 1 + 1 + 1 + 1 ≤ u := Nat.le_trans (by (try simp [go_sem]) <;> (try simp [Xt.add]) <;> omega) hr0.1
        have hu1 : u < w.heap.size + 1 + 1 + 1 + 1 + ((ta.add tb).add t0).bs.size := Nat.lt_of_lt_of_le hr0.2 (Nat.le_of_eq (by simp [go_sem]))
        have hPD := HPD.out
        have hRD := HRD.out
        have hMD := HMD.out
        have n1 : u ≠ R := by omega
        have n2 : R ≠ u := by omega
        have n3 : u ≠ P := by omega
        have n4 : P ≠ u := by omega
        have n5 : u ≠ M := by omega
        have n6 : M ≠ u := by omega
        have n7 : u ≠ w.heap.size := by omega
        have n8 : w.heap.size ≠ u := by omega
        clear hPD hRD hMD
        have g0 : W.cell? ⟨u, k * 10, none⟩ = some (.int .i64 r.who) := (cell_blk hb _).trans (hcell 0 _ rfl)
        have g1 : W.cell? ⟨u, k * 10 + 1, none⟩ = some (.int .i64 r.cell) := (cell_blk hb _).trans (hcell 1 _ rfl)
        have g2 : W.cell? ⟨u, k * 10 + 2, none⟩ = some (.bool r.busy) := (cell_blk hb _).trans (hcell 2 _ rfl)
        have g3 : W.cell? ⟨u, k * 10 + 3, none⟩ = some (.int .i64 r.ord.who) := (cell_blk hb _).trans (hcell 3 _ rfl)
        have g4 : W.cell? ⟨u, k * 10 + 4, none⟩ = some (.int .i64 r.ord.seq) := (cell_blk hb _).trans (hcell 4 _ rfl)
        have g5 : W.cell? ⟨u, k * 10 + 5, none⟩ = some (.int .i64 r.ord.kind) := (cell_blk hb _).trans (hcell 5 _ rfl)
        have g6 : W.cell? ⟨u, k * 10 + 6, none⟩ = some (.int .i64 r.ord.to_) := (cell_blk hb _).trans (hcell 6 _ rfl)
        have g7 : W.cell? ⟨u, k * 10 + 7, none⟩ = some (.int .i64 r.ord.n) := (cell_blk hb _).trans (hcell 7 _ rfl)
        have g8 : W.cell? ⟨u, k * 10 + 8, none⟩ = some (.int .i64 r.seq) := (cell_blk hb _).trans (hcell 8 _ rfl)
        have g9 : W.cell? ⟨u, k * 10 + 9, none⟩ = some (.int .i64 r.code) := (cell_blk hb _).trans (hcell 9 _ rfl)
        have hu := lt_blk hb
        have HB := hid hb
        have HZ := hid hsz
        have HC := hid hcell
        have HP := hid hput
        clear hb hsz hcell hput hy h1 h2 h3 h4 hl
        rcases (show r.busy = true ∨ r.busy = false by cases r.busy <;> simp) with r5 | r5
        · cases r6 : ((r.ord.who == x.ord.who) && ((r.ord.seq == x.ord.seq) && ((r.ord.kind == x.ord.kind) && ((r.ord.to_ == x.ord.to_) && (r.ord.n == x.ord.n))))) with
          | false =>
            have hq : hearHit r x = false := by rw [hearHit, r5, eqOrd]; simp only [Bool.true_and, Bool.and_assoc]; exact r6
            have E := hid (show hearB xs x = false by rw [HA.out.1, hq]; rfl)
            have E0' := hid (show hearL m xs x = xs by rw [HA.out.2, hq]; rfl)
            clear hq
            try go_wp2_with (first
                | (go_at_call 52; refine (l12At_c _ _ _ _ _ _ (Re.of (Hid.out (by assumption)) (by ((try simp only [ext_drew]); (try simp only [ext_ext]); repeat (first | exact Ext.refl _ | with_reducible apply Ext.add | with_reducible apply Ext.dr | apply Ext.alloc | apply Ext.ext | apply Ext.drew | refine Ext.trans ?_ (by assumption))))) (by omega)).mono ?_; rintro e w' ⟨rfl, t, rfl⟩)
                | (
                  with_reducible refine wp_region_mix (by kernel_rfl) (by decide +kernel) ?_
                  repeat (first
                    | (refine mix_pure rfl ?_; (first | go_big_quiet_skip | (go_big_quiet_want; go_big_quiet_op; go_big_quiet_on)); refine wpQuiet_nil ?_)
                    | (refine mix_skip (by rfl) ?_; (try simp only [Act.put, List.setIfInBounds_toArray, List.set_cons_zero, List.set_cons_succ]))
                    | (refine mix_mk rfl (by rfl) (fun K hK => ?_); (first | (go_simp; first | (go_at_call 52; refine (l12At_c _ _ _ _ _ _ (Re.of (Hid.out (by assumption)) (by ((try simp only [ext_drew]); (try simp only [ext_ext]); repeat (first | exact Ext.refl _ | with_reducible apply Ext.add | with_reducible apply Ext.dr | apply Ext.alloc | apply Ext.ext | apply Ext.drew | refine Ext.trans ?_ (by assumption))))) (by omega)).mono ?_; rintro e w' ⟨rfl, t, rfl⟩) | skip)); (show K _ _); refine hK _ _ (show Ext _ _ from (by ((try simp only [ext_drew]); (try simp only [ext_ext]); repeat (first | exact Ext.refl _ | with_reducible apply Ext.add | with_reducible apply Ext.dr | apply Ext.alloc | apply Ext.ext | apply Ext.drew | refine Ext.trans ?_ (by assumption))))) ?_; clear hK K; (try simp only [Act.put, List.setIfInBounds_toArray, List.set_cons_zero, List.set_cons_succ])))
                  refine mix_nil ?_)
                | (
                  with_reducible refine wp_region_ext (by kernel_rfl) (by kernel_rfl) ?_
                  repeat (first | go_big_quiet_skip | (go_big_quiet_want; go_big_quiet_op; first | go_big_quiet_on | (apply Exists.intro; refine ⟨fun _ => ?_, ?_⟩; ((first | (go_at_call 52; first | exact quiet_call (l12At_c _ _ _ _ _ _ (Re.of (Hid.out (by assumption)) (by ((try simp only [ext_drew]); (try simp only [ext_ext]); repeat (first | exact Ext.refl _ | with_reducible apply Ext.add | with_reducible apply Ext.dr | apply Ext.alloc | apply Ext.ext | apply Ext.drew | refine Ext.trans ?_ (by assumption))))) (by omega)) | exact quiet_call2 (l12At_c _ _ _ _ _ _ (Re.of (Hid.out (by assumption)) (by ((try simp only [ext_drew]); (try simp only [ext_ext]); repeat (first | exact Ext.refl _ | with_reducible apply Ext.add | with_reducible apply Ext.dr | apply Ext.alloc | apply Ext.ext | apply Ext.drew | refine Ext.trans ?_ (by assumption))))) (by omega))))); (try rw [h1]); (try rw [h2]); (try rw [h3]); (try rw [h4]); (try rw [p1]); (try rw [p2]); (try rw [p3]); (try rw [p4]); (try rw [r1]); (try rw [r2]); (try rw [r3]); (try rw [r4]); (try rw [r5]); (try rw [r6]); (try rw [q3]); (try rw [q4]); (try rw [hp]); (try rw [hq]); go_big_quiet_on)))
                  refine wpQuiet_nil ?_
                  rintro _ ⟨tq, rfl⟩))
            refine bodyPost_ret (v := .tuple #[.agg #[.slice (some ⟨u, 0, none⟩) n q0], .bool false]) (by simp [results, Try.results20, go_sem, cP, cR, lR, lP]) rfl ?_
            refine ⟨_, _, by rw [E.out], ?_⟩
            rw [E0'.out]
            exact fin_same hEW AW.out (R := R) hRw (by have := HRD.out; rw [← this]; ((try simp [go_sem]) <;> (try simp [Xt.add]) <;> omega)) (by repeat (first | with_reducible exact Chg.refl _ _ | with_reducible apply Chg.drew | with_reducible apply Chg.drewl | with_reducible refine Chg.turn (by simp) | with_reducible refine Chg.both ?_ (by simp) | (with_reducible refine Chg.set ?_ (by simp) _) | with_reducible apply Chg.alloc | with_reducible apply Chg.ext))
          | true =>
            have HQ := hid (show hearHit r x = true by rw [hearHit, r5, eqOrd]; simp only [Bool.true_and, Bool.and_assoc]; exact r6)
            cases q3 : (x.kind == 3) with
            | true =>
              have e3 : x.kind = 3 := by simpa using q3
              have E := hid (show hearB xs x = true by rw [HA.out.1, HQ.out, q3]; rfl)
              have eseq : r.ord.seq = x.ord.seq := by simp only [Bool.and_eq_true, beq_iff_eq] at r6; exact r6.2.1
              have E0' := hid (show hearL m xs x = xs.set k ⟨r.who, x.cell, false, ordNil, r.ord.seq, x.n⟩ by rw [HA.out.2, if_pos HQ.out, hearRow, if_pos e3, eseq])
              clear e3 eseq
              have z0 := frozen_blk HB.out (k * 10)
              have z1 := frozen_blk HB.out (k * 10 + 1)
              have z2 := frozen_blk HB.out (k * 10 + 2)
              have z3 := frozen_blk HB.out (k * 10 + 3)
              have z4 := frozen_blk HB.out (k * 10 + 4)
              have z5 := frozen_blk HB.out (k * 10 + 5)
              have z6 := frozen_blk HB.out (k * 10 + 6)
              have z7 := frozen_blk HB.out (k * 10 + 7)
              have z8 := frozen_blk HB.out (k * 10 + 8)
              have z9 := frozen_blk HB.out (k * 10 + 9)
              try go_wp2_with (first
                  | (go_at_call 52; refine (l12At_c _ _ _ _ _ _ (Re.of (Hid.out (by assumption)) (by ((try simp only [ext_drew]); (try simp only [ext_ext]); repeat (first | exact Ext.refl _ | with_reducible apply Ext.add | with_reducible apply Ext.dr | apply Ext.alloc | apply Ext.ext | apply Ext.drew | refine Ext.trans ?_ (by assumption))))) (by omega)).mono ?_; rintro e w' ⟨rfl, t, rfl⟩)
                  | (
                    with_reducible refine wp_region_mix (by kernel_rfl) (by decide +kernel) ?_
                    repeat (first
                      | (refine mix_pure rfl ?_; (first | go_big_quiet_skip | (go_big_quiet_want; go_big_quiet_op; go_big_quiet_on)); refine wpQuiet_nil ?_)
                      | (refine mix_skip (by rfl) ?_; (try simp only [Act.put, List.setIfInBounds_toArray, List.set_cons_zero, List.set_cons_succ]))
                      | (refine mix_mk rfl (by rfl) (fun K hK => ?_); (first | (go_simp; first | (go_at_call 52; refine (l12At_c _ _ _ _ _ _ (Re.of (Hid.out (by assumption)) (by ((try simp only [ext_drew]); (try simp only [ext_ext]); repeat (first | exact Ext.refl _ | with_reducible apply Ext.add | with_reducible apply Ext.dr | apply Ext.alloc | apply Ext.ext | apply Ext.drew | refine Ext.trans ?_ (by assumption))))) (by omega)).mono ?_; rintro e w' ⟨rfl, t, rfl⟩) | skip)); (show K _ _); refine hK _ _ (show Ext _ _ from (by ((try simp only [ext_drew]); (try simp only [ext_ext]); repeat (first | exact Ext.refl _ | with_reducible apply Ext.add | with_reducible apply Ext.dr | apply Ext.alloc | apply Ext.ext | apply Ext.drew | refine Ext.trans ?_ (by assumption))))) ?_; clear hK K; (try simp only [Act.put, List.setIfInBounds_toArray, List.set_cons_zero, List.set_cons_succ])))
                    refine mix_nil ?_)
                  | (
                    with_reducible refine wp_region_ext (by kernel_rfl) (by kernel_rfl) ?_
                    repeat (first | go_big_quiet_skip | (go_big_quiet_want; go_big_quiet_op; first | go_big_quiet_on | (apply Exists.intro; refine ⟨fun _ => ?_, ?_⟩; ((first | (go_at_call 52; first | exact quiet_call (l12At_c _ _ _ _ _ _ (Re.of (Hid.out (by assumption)) (by ((try simp only [ext_drew]); (try simp only [ext_ext]); repeat (first | exact Ext.refl _ | with_reducible apply Ext.add | with_reducible apply Ext.dr | apply Ext.alloc | apply Ext.ext | apply Ext.drew | refine Ext.trans ?_ (by assumption))))) (by omega)) | exact quiet_call2 (l12At_c _ _ _ _ _ _ (Re.of (Hid.out (by assumption)) (by ((try simp only [ext_drew]); (try simp only [ext_ext]); repeat (first | exact Ext.refl _ | with_reducible apply Ext.add | with_reducible apply Ext.dr | apply Ext.alloc | apply Ext.ext | apply Ext.drew | refine Ext.trans ?_ (by assumption))))) (by omega))))); (try rw [h1]); (try rw [h2]); (try rw [h3]); (try rw [h4]); (try rw [p1]); (try rw [p2]); (try rw [p3]); (try rw [p4]); (try rw [r1]); (try rw [r2]); (try rw [r3]); (try rw [r4]); (try rw [r5]); (try rw [r6]); (try rw [q3]); (try rw [q4]); (try rw [hp]); (try rw [hq]); go_big_quiet_on)))
                    refine wpQuiet_nil ?_
                    rintro _ ⟨tq, rfl⟩))
              refine bodyPost_ret (v := .tuple #[.agg #[.slice (some ⟨u, 0, none⟩) n q0], .bool true]) (by simp [results, Try.results20, go_sem, cP, cR, lR, lP, n1, n2, n3, n4]) rfl ?_
              refine ⟨_, _, by rw [E.out], ?_⟩
              rw [E0'.out]
              refine ⟨Ext.of_below (Below.chg hEW.below (B := [u, R]) (by repeat (first | with_reducible exact Chg.refl _ _ | with_reducible apply Chg.drew | with_reducible apply Chg.drewl | with_reducible refine Chg.turn (by simp) | with_reducible refine Chg.both ?_ (by simp) | (with_reducible refine Chg.set ?_ (by simp) _) | with_reducible apply Chg.alloc | with_reducible apply Chg.ext)) ?_), Nat.le_refl _, [u], by simp, ?_, own_Gwy_of (HP.out _ ((((((((((arr.setIfInBounds (k * 10) (.int .i64 r.who)).setIfInBounds (k * 10 + 1) (.int .i64 x.cell)).setIfInBounds (k * 10 + 2) (.bool false)).setIfInBounds (k * 10 + 3) (.int .i64 0)).setIfInBounds (k * 10 + 4) (.int .i64 0)).setIfInBounds (k * 10 + 5) (.int .i64 0)).setIfInBounds (k * 10 + 6) (.int .i64 0)).setIfInBounds (k * 10 + 7) (.int .i64 0)).setIfInBounds (k * 10 + 8) (.int .i64 r.ord.seq)).setIfInBounds (k * 10 + 9) (.int .i64 x.n)) ⟨r.who, x.cell, false, ordNil, r.ord.seq, x.n⟩ ((by repeat (first | with_reducible exact HB.out | with_reducible apply blk_drew | with_reducible refine blk_set ?_ | (with_reducible refine blk_other ?_ (by first | assumption | omega)) | with_reducible refine blk_ext ?_ | with_reducible refine blk_alloc ?_))) (by simp) (fun i hi => ?_) (fun i v hv => ?_))⟩
              · intro b hb
                simp only [List.mem_cons, List.not_mem_nil, or_false] at hb
                rcases hb with rfl | rfl <;> omega
              · intro b hb
                obtain rfl : b = u := by simpa using hb
                refine ⟨by omega, Nat.lt_of_lt_of_le hu ?_⟩
                exact (show Chg [b, R] W _ from (by repeat (first | with_reducible exact Chg.refl _ _ | with_reducible apply Chg.drew | with_reducible apply Chg.drewl | with_reducible refine Chg.turn (by simp) | with_reducible refine Chg.both ?_ (by simp) | (with_reducible refine Chg.set ?_ (by simp) _) | with_reducible apply Chg.alloc | with_reducible apply Chg.ext))).size
              · repeat (with_reducible refine arr_out (by omega) ?_)
                rfl
              have hsz := HZ.out
              match i, hv with
              | 0, hv =>
                repeat (with_reducible refine arr_out (by omega) ?_)
                exact (arr_at (by omega) (by (try simp only [Array.size_setIfInBounds]); omega)).trans hv
              | 1, hv =>
                repeat (with_reducible refine arr_out (by omega) ?_)
                exact (arr_at (by omega) (by (try simp only [Array.size_setIfInBounds]); omega)).trans hv
              | 2, hv =>
                repeat (with_reducible refine arr_out (by omega) ?_)
                exact (arr_at (by omega) (by (try simp only [Array.size_setIfInBounds]); omega)).trans hv
              | 3, hv =>
                repeat (with_reducible refine arr_out (by omega) ?_)
                exact (arr_at (by omega) (by (try simp only [Array.size_setIfInBounds]); omega)).trans hv
              | 4, hv =>
                repeat (with_reducible refine arr_out (by omega) ?_)
                exact (arr_at (by omega) (by (try simp only [Array.size_setIfInBounds]); omega)).trans hv
              | 5, hv =>
                repeat (with_reducible refine arr_out (by omega) ?_)
                exact (arr_at (by omega) (by (try simp only [Array.size_setIfInBounds]); omega)).trans hv
              | 6, hv =>
                repeat (with_reducible refine arr_out (by omega) ?_)
                exact (arr_at (by omega) (by (try simp only [Array.size_setIfInBounds]); omega)).trans hv
              | 7, hv =>
                repeat (with_reducible refine arr_out (by omega) ?_)
                exact (arr_at (by omega) (by (try simp only [Array.size_setIfInBounds]); omega)).trans hv
              | 8, hv =>
                repeat (with_reducible refine arr_out (by omega) ?_)
                exact (arr_at (by omega) (by (try simp only [Array.size_setIfInBounds]); omega)).trans hv
              | 9, hv =>
                repeat (with_reducible refine arr_out (by omega) ?_)
                exact (arr_at (by omega) (by (try simp only [Array.size_setIfInBounds]); omega)).trans hv
            | false =>
              have n3' : ¬ x.kind = 3 := by simpa using q3
              have E := hid (show hearB xs x = false by rw [HA.out.1, q3, Bool.and_false])
              cases q4 : (x.kind == 4) with
              | false =>
                have n4' : ¬ x.kind = 4 := by simpa using q4
                have E0' := hid (show hearL m xs x = xs by rw [HA.out.2, if_pos HQ.out, hearRow, if_neg n3', if_neg (fun h => n4' h.1)]; exact HSELF.out)
                clear n3' n4'
                try go_wp2_with (first
                    | (go_at_call 52; refine (l12At_c _ _ _ _ _ _ (Re.of (Hid.out (by assumption)) (by ((try simp only [ext_drew]); (try simp only [ext_ext]); repeat (first | exact Ext.refl _ | with_reducible apply Ext.add | with_reducible apply Ext.dr | apply Ext.alloc | apply Ext.ext | apply Ext.drew | refine Ext.trans ?_ (by assumption))))) (by omega)).mono ?_; rintro e w' ⟨rfl, t, rfl⟩)
                    | (
                      with_reducible refine wp_region_mix (by kernel_rfl) (by decide +kernel) ?_
                      repeat (first
                        | (refine mix_pure rfl ?_; (first | go_big_quiet_skip | (go_big_quiet_want; go_big_quiet_op; go_big_quiet_on)); refine wpQuiet_nil ?_)
                        | (refine mix_skip (by rfl) ?_; (try simp only [Act.put, List.setIfInBounds_toArray, List.set_cons_zero, List.set_cons_succ]))
                        | (refine mix_mk rfl (by rfl) (fun K hK => ?_); (first | (go_simp; first | (go_at_call 52; refine (l12At_c _ _ _ _ _ _ (Re.of (Hid.out (by assumption)) (by ((try simp only [ext_drew]); (try simp only [ext_ext]); repeat (first | exact Ext.refl _ | with_reducible apply Ext.add | with_reducible apply Ext.dr | apply Ext.alloc | apply Ext.ext | apply Ext.drew | refine Ext.trans ?_ (by assumption))))) (by omega)).mono ?_; rintro e w' ⟨rfl, t, rfl⟩) | skip)); (show K _ _); refine hK _ _ (show Ext _ _ from (by ((try simp only [ext_drew]); (try simp only [ext_ext]); repeat (first | exact Ext.refl _ | with_reducible apply Ext.add | with_reducible apply Ext.dr | apply Ext.alloc | apply Ext.ext | apply Ext.drew | refine Ext.trans ?_ (by assumption))))) ?_; clear hK K; (try simp only [Act.put, List.setIfInBounds_toArray, List.set_cons_zero, List.set_cons_succ])))
                      refine mix_nil ?_)
                    | (
                      with_reducible refine wp_region_ext (by kernel_rfl) (by kernel_rfl) ?_
                      repeat (first | go_big_quiet_skip | (go_big_quiet_want; go_big_quiet_op; first | go_big_quiet_on | (apply Exists.intro; refine ⟨fun _ => ?_, ?_⟩; ((first | (go_at_call 52; first | exact quiet_call (l12At_c _ _ _ _ _ _ (Re.of (Hid.out (by assumption)) (by ((try simp only [ext_drew]); (try simp only [ext_ext]); repeat (first | exact Ext.refl _ | with_reducible apply Ext.add | with_reducible apply Ext.dr | apply Ext.alloc | apply Ext.ext | apply Ext.drew | refine Ext.trans ?_ (by assumption))))) (by omega)) | exact quiet_call2 (l12At_c _ _ _ _ _ _ (Re.of (Hid.out (by assumption)) (by ((try simp only [ext_drew]); (try simp only [ext_ext]); repeat (first | exact Ext.refl _ | with_reducible apply Ext.add | with_reducible apply Ext.dr | apply Ext.alloc | apply Ext.ext | apply Ext.drew | refine Ext.trans ?_ (by assumption))))) (by omega))))); (try rw [h1]); (try rw [h2]); (try rw [h3]); (try rw [h4]); (try rw [p1]); (try rw [p2]); (try rw [p3]); (try rw [p4]); (try rw [r1]); (try rw [r2]); (try rw [r3]); (try rw [r4]); (try rw [r5]); (try rw [r6]); (try rw [q3]); (try rw [q4]); (try rw [hp]); (try rw [hq]); go_big_quiet_on)))
                      refine wpQuiet_nil ?_
                      rintro _ ⟨tq, rfl⟩))
                refine bodyPost_ret (v := .tuple #[.agg #[.slice (some ⟨u, 0, none⟩) n q0], .bool false]) (by simp [results, Try.results20, go_sem, cP, cR, lR, lP]) rfl ?_
                refine ⟨_, _, by rw [E.out], ?_⟩
                rw [E0'.out]
                exact fin_same hEW AW.out (R := R) hRw (by have := HRD.out; rw [← this]; ((try simp [go_sem]) <;> (try simp [Xt.add]) <;> omega)) (by repeat (first | with_reducible exact Chg.refl _ _ | with_reducible apply Chg.drew | with_reducible apply Chg.drewl | with_reducible refine Chg.turn (by simp) | with_reducible refine Chg.both ?_ (by simp) | (with_reducible refine Chg.set ?_ (by simp) _) | with_reducible apply Chg.alloc | with_reducible apply Chg.ext))
              | true =>
                have e4 : x.kind = 4 := by simpa using q4
                cases q5 : (x.cell == r.cell) with
                | false =>
                  have n5' : ¬ x.cell = r.cell := by simpa using q5
                  have E0' := hid (show hearL m xs x = xs by rw [HA.out.2, if_pos HQ.out, hearRow, if_neg n3', if_neg (fun h => n5' h.2)]; exact HSELF.out)
                  clear n3' e4 n5'
                  try go_wp2_with (first
                      | (go_at_call 52; refine (l12At_c _ _ _ _ _ _ (Re.of (Hid.out (by assumption)) (by ((try simp only [ext_drew]); (try simp only [ext_ext]); repeat (first | exact Ext.refl _ | with_reducible apply Ext.add | with_reducible apply Ext.dr | apply Ext.alloc | apply Ext.ext | apply Ext.drew | refine Ext.trans ?_ (by assumption))))) (by omega)).mono ?_; rintro e w' ⟨rfl, t, rfl⟩)
                      | (
                        with_reducible refine wp_region_mix (by kernel_rfl) (by decide +kernel) ?_
                        repeat (first
                          | (refine mix_pure rfl ?_; (first | go_big_quiet_skip | (go_big_quiet_want; go_big_quiet_op; go_big_quiet_on)); refine wpQuiet_nil ?_)
                          | (refine mix_skip (by rfl) ?_; (try simp only [Act.put, List.setIfInBounds_toArray, List.set_cons_zero, List.set_cons_succ]))
                          | (refine mix_mk rfl (by rfl) (fun K hK => ?_); (first | (go_simp; first | (go_at_call 52; refine (l12At_c _ _ _ _ _ _ (Re.of (Hid.out (by assumption)) (by ((try simp only [ext_drew]); (try simp only [ext_ext]); repeat (first | exact Ext.refl _ | with_reducible apply Ext.add | with_reducible apply Ext.dr | apply Ext.alloc | apply Ext.ext | apply Ext.drew | refine Ext.trans ?_ (by assumption))))) (by omega)).mono ?_; rintro e w' ⟨rfl, t, rfl⟩) | skip)); (show K _ _); refine hK _ _ (show Ext _ _ from (by ((try simp only [ext_drew]); (try simp only [ext_ext]); repeat (first | exact Ext.refl _ | with_reducible apply Ext.add | with_reducible apply Ext.dr | apply Ext.alloc | apply Ext.ext | apply Ext.drew | refine Ext.trans ?_ (by assumption))))) ?_; clear hK K; (try simp only [Act.put, List.setIfInBounds_toArray, List.set_cons_zero, List.set_cons_succ])))
                        refine mix_nil ?_)
                      | (
                        with_reducible refine wp_region_ext (by kernel_rfl) (by kernel_rfl) ?_
                        repeat (first | go_big_quiet_skip | (go_big_quiet_want; go_big_quiet_op; first | go_big_quiet_on | (apply Exists.intro; refine ⟨fun _ => ?_, ?_⟩; ((first | (go_at_call 52; first | exact quiet_call (l12At_c _ _ _ _ _ _ (Re.of (Hid.out (by assumption)) (by ((try simp only [ext_drew]); (try simp only [ext_ext]); repeat (first | exact Ext.refl _ | with_reducible apply Ext.add | with_reducible apply Ext.dr | apply Ext.alloc | apply Ext.ext | apply Ext.drew | refine Ext.trans ?_ (by assumption))))) (by omega)) | exact quiet_call2 (l12At_c _ _ _ _ _ _ (Re.of (Hid.out (by assumption)) (by ((try simp only [ext_drew]); (try simp only [ext_ext]); repeat (first | exact Ext.refl _ | with_reducible apply Ext.add | with_reducible apply Ext.dr | apply Ext.alloc | apply Ext.ext | apply Ext.drew | refine Ext.trans ?_ (by assumption))))) (by omega))))); (try rw [h1]); (try rw [h2]); (try rw [h3]); (try rw [h4]); (try rw [p1]); (try rw [p2]); (try rw [p3]); (try rw [p4]); (try rw [r1]); (try rw [r2]); (try rw [r3]); (try rw [r4]); (try rw [r5]); (try rw [r6]); (try rw [q3]); (try rw [q4]); (try rw [hp]); (try rw [hq]); go_big_quiet_on)))
                        refine wpQuiet_nil ?_
                        rintro _ ⟨tq, rfl⟩))
                  refine bodyPost_ret (v := .tuple #[.agg #[.slice (some ⟨u, 0, none⟩) n q0], .bool false]) (by simp [results, Try.results20, go_sem, cP, cR, lR, lP]) rfl ?_
                  refine ⟨_, _, by rw [E.out], ?_⟩
                  rw [E0'.out]
                  exact fin_same hEW AW.out (R := R) hRw (by have := HRD.out; rw [← this]; ((try simp [go_sem]) <;> (try simp [Xt.add]) <;> omega)) (by repeat (first | with_reducible exact Chg.refl _ _ | with_reducible apply Chg.drew | with_reducible apply Chg.drewl | with_reducible refine Chg.turn (by simp) | with_reducible refine Chg.both ?_ (by simp) | (with_reducible refine Chg.set ?_ (by simp) _) | with_reducible apply Chg.alloc | with_reducible apply Chg.ext))
                | true =>
                  have e5 : x.cell = r.cell := by simpa using q5
                  have E0' := hid (show hearL m xs x = xs.set k { r with cell := (r.cell + 1) % m.c } by rw [HA.out.2, if_pos HQ.out, hearRow, if_neg n3', if_pos ⟨e4, e5⟩])
                  clear n3' e4 e5
                  have z1 := frozen_blk HB.out (k * 10 + 1)
                  go_wp2_with (first | (go_at_call 52; refine (l12At_c _ _ _ _ _ _ (Re.of (Hid.out (by assumption)) (by ((try simp only [ext_drew]); (try simp only [ext_ext]); repeat (first | exact Ext.refl _ | with_reducible apply Ext.add | with_reducible apply Ext.dr | apply Ext.alloc | apply Ext.ext | apply Ext.drew | refine Ext.trans ?_ (by assumption))))) (by omega)).mono ?_; rintro e w' ⟨rfl, t, rfl⟩))
                  with_reducible refine wp_region_ext (by kernel_rfl) (by kernel_rfl) ?_
                  repeat (first | go_big_quiet_skip | (go_big_quiet_want; go_big_quiet_op; first | go_big_quiet_on | (apply Exists.intro; refine ⟨fun _ => ?_, ?_⟩; (fail); (try rw [hk1]); (try rw [r5]); (try rw [r6]); go_big_quiet_on)))
                  refine wpQuiet_nil ?_
                  rintro _ ⟨tq, rfl⟩
                  go_wp2_with (fail)
                  go_region
                  go_wp2_with (fail)
                  refine bodyPost_ret (v := .tuple #[.agg #[.slice (some ⟨u, 0, none⟩) n q0], .bool false]) (by simp [results, Try.results20, go_sem, cP, cR, lR, lP, n1, n2, n3, n4]) rfl ?_
                  refine ⟨_, _, by rw [E.out], ?_⟩
                  rw [E0'.out]
                  refine ⟨Ext.of_below (Below.chg hEW.below (B := [u, R]) (by repeat (first | with_reducible exact Chg.refl _ _ | with_reducible apply Chg.drew | with_reducible apply Chg.drewl | with_reducible refine Chg.turn (by simp) | with_reducible refine Chg.both ?_ (by simp) | (with_reducible refine Chg.set ?_ (by simp) _) | with_reducible apply Chg.alloc | with_reducible apply Chg.ext)) ?_), Nat.le_refl _, [u], by simp, ?_, own_Gwy_of (HP.out _ (arr.setIfInBounds (k * 10 + 1) (.int .i64 ((r.cell + 1) % m.c))) { r with cell := (r.cell + 1) % m.c } ((by repeat (first | with_reducible exact HB.out | with_reducible apply blk_drew | with_reducible refine blk_set ?_ | (with_reducible refine blk_other ?_ (by first | assumption | omega)) | with_reducible refine blk_ext ?_ | with_reducible refine blk_alloc ?_))) (by simp) (fun i hi => by rw [Array.getElem?_setIfInBounds, if_neg (by omega)]) (fun i v hv => ?_))⟩
                  · intro b hb
                    simp only [List.mem_cons, List.not_mem_nil, or_false] at hb
                    rcases hb with rfl | rfl <;> omega
                  · intro b hb
                    obtain rfl : b = u := by simpa using hb
                    refine ⟨by omega, Nat.lt_of_lt_of_le hu ?_⟩
                    exact (show Chg [b, R] W _ from (by repeat (first | with_reducible exact Chg.refl _ _ | with_reducible apply Chg.drew | with_reducible apply Chg.drewl | with_reducible refine Chg.turn (by simp) | with_reducible refine Chg.both ?_ (by simp) | (with_reducible refine Chg.set ?_ (by simp) _) | with_reducible apply Chg.alloc | with_reducible apply Chg.ext))).size
                  have hsz := HZ.out
                  match i, hv with
                  | 1, hv => rw [Array.getElem?_setIfInBounds, if_pos rfl, if_pos (by omega)]; exact hv
                  | 0, hv => rw [Array.getElem?_setIfInBounds, if_neg (by omega)]; exact HC.out 0 v hv
                  | 2, hv => rw [Array.getElem?_setIfInBounds, if_neg (by omega)]; exact HC.out 2 v hv
                  | 3, hv => rw [Array.getElem?_setIfInBounds, if_neg (by omega)]; exact HC.out 3 v hv
                  | 4, hv => rw [Array.getElem?_setIfInBounds, if_neg (by omega)]; exact HC.out 4 v hv
                  | 5, hv => rw [Array.getElem?_setIfInBounds, if_neg (by omega)]; exact HC.out 5 v hv
                  | 6, hv => rw [Array.getElem?_setIfInBounds, if_neg (by omega)]; exact HC.out 6 v hv
                  | 7, hv => rw [Array.getElem?_setIfInBounds, if_neg (by omega)]; exact HC.out 7 v hv
                  | 8, hv => rw [Array.getElem?_setIfInBounds, if_neg (by omega)]; exact HC.out 8 v hv
                  | 9, hv => rw [Array.getElem?_setIfInBounds, if_neg (by omega)]; exact HC.out 9 v hv
        · have hq : hearHit r x = false := by rw [hearHit, r5]; rfl
          have E := hid (show hearB xs x = false by rw [HA.out.1, hq]; rfl)
          have E0' := hid (show hearL m xs x = xs by rw [HA.out.2, hq]; rfl)
          clear hq
          try go_wp2_with (first
              | (go_at_call 52; refine (l12At_c _ _ _ _ _ _ (Re.of (Hid.out (by assumption)) (by ((try simp only [ext_drew]); (try simp only [ext_ext]); repeat (first | exact Ext.refl _ | with_reducible apply Ext.add | with_reducible apply Ext.dr | apply Ext.alloc | apply Ext.ext | apply Ext.drew | refine Ext.trans ?_ (by assumption))))) (by omega)).mono ?_; rintro e w' ⟨rfl, t, rfl⟩)
              | (
                with_reducible refine wp_region_mix (by kernel_rfl) (by decide +kernel) ?_
                repeat (first
                  | (refine mix_pure rfl ?_; (first | go_big_quiet_skip | (go_big_quiet_want; go_big_quiet_op; go_big_quiet_on)); refine wpQuiet_nil ?_)
                  | (refine mix_skip (by rfl) ?_; (try simp only [Act.put, List.setIfInBounds_toArray, List.set_cons_zero, List.set_cons_succ]))
                  | (refine mix_mk rfl (by rfl) (fun K hK => ?_); (first | (go_simp; first | (go_at_call 52; refine (l12At_c _ _ _ _ _ _ (Re.of (Hid.out (by assumption)) (by ((try simp only [ext_drew]); (try simp only [ext_ext]); repeat (first | exact Ext.refl _ | with_reducible apply Ext.add | with_reducible apply Ext.dr | apply Ext.alloc | apply Ext.ext | apply Ext.drew | refine Ext.trans ?_ (by assumption))))) (by omega)).mono ?_; rintro e w' ⟨rfl, t, rfl⟩) | skip)); (show K _ _); refine hK _ _ (show Ext _ _ from (by ((try simp only [ext_drew]); (try simp only [ext_ext]); repeat (first | exact Ext.refl _ | with_reducible apply Ext.add | with_reducible apply Ext.dr | apply Ext.alloc | apply Ext.ext | apply Ext.drew | refine Ext.trans ?_ (by assumption))))) ?_; clear hK K; (try simp only [Act.put, List.setIfInBounds_toArray, List.set_cons_zero, List.set_cons_succ])))
                refine mix_nil ?_)
              | (
                with_reducible refine wp_region_ext (by kernel_rfl) (by kernel_rfl) ?_
                repeat (first | go_big_quiet_skip | (go_big_quiet_want; go_big_quiet_op; first | go_big_quiet_on | (apply Exists.intro; refine ⟨fun _ => ?_, ?_⟩; ((first | (go_at_call 52; first | exact quiet_call (l12At_c _ _ _ _ _ _ (Re.of (Hid.out (by assumption)) (by ((try simp only [ext_drew]); (try simp only [ext_ext]); repeat (first | exact Ext.refl _ | with_reducible apply Ext.add | with_reducible apply Ext.dr | apply Ext.alloc | apply Ext.ext | apply Ext.drew | refine Ext.trans ?_ (by assumption))))) (by omega)) | exact quiet_call2 (l12At_c _ _ _ _ _ _ (Re.of (Hid.out (by assumption)) (by ((try simp only [ext_drew]); (try simp only [ext_ext]); repeat (first | exact Ext.refl _ | with_reducible apply Ext.add | with_reducible apply Ext.dr | apply Ext.alloc | apply Ext.ext | apply Ext.drew | refine Ext.trans ?_ (by assumption))))) (by omega))))); (try rw [h1]); (try rw [h2]); (try rw [h3]); (try rw [h4]); (try rw [p1]); (try rw [p2]); (try rw [p3]); (try rw [p4]); (try rw [r1]); (try rw [r2]); (try rw [r3]); (try rw [r4]); (try rw [r5]); (try rw [r6]); (try rw [q3]); (try rw [q4]); (try rw [hp]); (try rw [hq]); go_big_quiet_on)))
                refine wpQuiet_nil ?_
                rintro _ ⟨tq, rfl⟩))
          refine bodyPost_ret (v := .tuple #[.agg #[.slice (some ⟨u, 0, none⟩) n q0], .bool false]) (by simp [results, Try.results20, go_sem, cP, cR, lR, lP]) rfl ?_
          refine ⟨_, _, by rw [E.out], ?_⟩
          rw [E0'.out]
          exact fin_same hEW AW.out (R := R) hRw (by have := HRD.out; rw [← this]; ((try simp [go_sem]) <;> (try simp [Xt.add]) <;> omega)) (by repeat (first | with_reducible exact Chg.refl _ _ | with_reducible apply Chg.drew | with_reducible apply Chg.drewl | with_reducible refine Chg.turn (by simp) | with_reducible refine Chg.both ?_ (by simp) | (with_reducible refine Chg.set ?_ (by simp) _) | with_reducible apply Chg.alloc | with_reducible apply Chg.ext))
end Go.Proofs.Ytnfodkhfoegnaaa

namespace Go.Proofs.Ytnfodkhfoegnaaa
open Go.RowKit
theorem gapload_gate {P : Program} {ops : Array Oper} {base : World} {K : List (Nat × Nat) → Act → World → Prop} {rest : List Oper} {iv : List (Nat × Nat)} {a : Act} {w : World} {d : Option Nat} {s : Operand} {T1 ty : TypeId} {ps : String} {af : Array Edge} {gg : Option (Nat × Bool)}
    (h : wpGapL P ops base K ({ dst := d, op := Op.load T1 s, type := ty, pos := ps, after := af, guard := gg } :: rest) iv a w) :
    wpGapL P ops base K ({ dst := d, op := Op.load T1 s, type := ty, pos := ps, after := af, guard := gg } :: rest) iv a w := h
theorem gap_loadW {P : Program} {ops : Array Oper} {base : World} {K : List (Nat × Nat) → Act → World → Prop} {r : List Oper} {iv : List (Nat × Nat)} {o : Oper} {a : Act} {w : World} (hw : Region.wanted o (yielded ops a.tmps) = true) (ty : TypeId) (x : Operand) (ho : o.op = .load ty x)
    (b : Nat) (cs : Array Value) (T' : TypeId) (d : TypeDesc) (hx : a.eval x = .pointer (some ⟨b, 0, none⟩)) (hS : ∀ w', Ext base w' → w'.heap[b]? = some (.cells cs T' (0, 0))) (hu : P.underlying ty = some d) (hd : d.isRow = true) (hi : (P.info? ty).map (·.size) = some cs.size)
    (h : wpGapL P ops base K r iv (a.put o.dst (.agg cs)) w) : wpGapL P ops base K (o :: r) iv a w := by
  unfold wpGapL
  rw [if_neg (by simp [isMk, ho])]
  refine ⟨.agg cs, .inl ⟨hw, fun w' hw' => ?_⟩, h⟩
  have hb := hS w' hw'
  have := run_loadVar_mid (P := P) w' b 0 ty cs.toList d (fun j v hv => by rw [cell_blk hb, Nat.zero_add]; simpa using hv) hu hd (by simpa using hi)
  simp only [execOp, ho, hx, Instr.loadAt, Instr.sureAddr, Sem.run_bind, Sem.run_pure, Result.andThen_ok, this]
end Go.Proofs.Ytnfodkhfoegnaaa

namespace Go.Proofs.Ytnfodkhfoegnaaa
open Go.RowKit
set_option linter.unusedSimpArgs false
set_option linter.unusedVariables false

set_option maxRecDepth 100000 in
set_option maxHeartbeats 4000000 in
theorem toMsgX_c (x : Msg) (w : World) : Calls Try.prog 9 #[.agg #[.int .i64 x.kind, .int .i64 x.to_, .int .i64 x.cell, .int .i64 x.side, .int .i64 x.n, .int .i64 x.ord.who, .int .i64 x.ord.seq, .int .i64 x.ord.kind, .int .i64 x.ord.to_, .int .i64 x.ord.n, .int .i64 x.pcl.n, .int .i64 x.pcl.kind, .int .i64 x.pcl.wk.id, .int .i64 x.pcl.wk.at_, .int .i64 x.pcl.wk.coins, .int .i64 x.pcl.wk.seq, .int .i64 x.pcl.wk.last, .int .i64 x.pcl.coins, .int .i64 x.gst.src, .int .i64 x.gst.count, .int .i64 x.gst.wk.id, .int .i64 x.gst.wk.at_, .int .i64 x.gst.wk.coins, .int .i64 x.gst.wk.seq, .int .i64 x.gst.wk.last]] w fun e w' => e = .returned (.agg #[.int .i64 x.kind, .int .i64 x.to_, .int .i64 x.cell, .int .i64 x.side, .int .i64 x.n, .int .i64 x.ord.who, .int .i64 x.ord.seq, .int .i64 x.ord.kind, .int .i64 x.ord.to_, .int .i64 x.ord.n, .int .i64 x.pcl.n, .int .i64 x.pcl.kind, .int .i64 x.pcl.wk.id, .int .i64 x.pcl.wk.at_, .int .i64 x.pcl.wk.coins, .int .i64 x.pcl.wk.seq, .int .i64 x.pcl.wk.last, .int .i64 x.pcl.coins, .int .i64 x.gst.src, .int .i64 x.gst.count, .int .i64 x.gst.wk.id, .int .i64 x.gst.wk.at_, .int .i64 x.gst.wk.coins, .int .i64 x.gst.wk.seq, .int .i64 x.gst.wk.last]) ∧ Ext w w' := by
  go_enter Try.func9, Try.ntmps9
  go_wp2_with (first | (go_at_call 39; (with_reducible refine (toOrd_c x.ord _).mono ?_); rintro e w' ⟨rfl, ta, rfl⟩) | (go_at_call 40; (with_reducible refine (toPcl_c x.pcl _).mono ?_); rintro e w' ⟨rfl, tb, rfl⟩) | (go_at_call 27; (with_reducible refine (toGst_c x.gst _).mono ?_); rintro e w' ⟨rfl, tc, rfl⟩) | ((with_reducible refine load_gate (T1 := 44) ?_); refine wpList_loadW rfl _ _ rfl (w.heap.size + 1 + 1) #[.int .i64 x.kind, .int .i64 x.to_, .int .i64 x.cell, .int .i64 x.side, .int .i64 x.n, .int .i64 x.ord.who, .int .i64 x.ord.seq, .int .i64 x.ord.kind, .int .i64 x.ord.to_, .int .i64 x.ord.n, .int .i64 x.pcl.n, .int .i64 x.pcl.kind, .int .i64 x.pcl.wk.id, .int .i64 x.pcl.wk.at_, .int .i64 x.pcl.wk.coins, .int .i64 x.pcl.wk.seq, .int .i64 x.pcl.wk.last, .int .i64 x.pcl.coins, .int .i64 x.gst.src, .int .i64 x.gst.count, .int .i64 x.gst.wk.id, .int .i64 x.gst.wk.at_, .int .i64 x.gst.wk.coins, .int .i64 x.gst.wk.seq, .int .i64 x.gst.wk.last] 44 _ rfl (blk_ext (alloc_last (by (try simp [go_sem]) <;> (try simp [Xt.add]) <;> omega))) Try.underlying44 rfl (by kernel_rfl) ?_) | ((with_reducible refine store_gate (T1 := 44) ?_); (refine wpList_storeW rfl _ _ _ rfl (w.heap.size + 1) _ #[.int .i64 x.kind, .int .i64 x.to_, .int .i64 x.cell, .int .i64 x.side, .int .i64 x.n, .int .i64 x.ord.who, .int .i64 x.ord.seq, .int .i64 x.ord.kind, .int .i64 x.ord.to_, .int .i64 x.ord.n, .int .i64 x.pcl.n, .int .i64 x.pcl.kind, .int .i64 x.pcl.wk.id, .int .i64 x.pcl.wk.at_, .int .i64 x.pcl.wk.coins, .int .i64 x.pcl.wk.seq, .int .i64 x.pcl.wk.last, .int .i64 x.pcl.coins, .int .i64 x.gst.src, .int .i64 x.gst.count, .int .i64 x.gst.wk.id, .int .i64 x.gst.wk.at_, .int .i64 x.gst.wk.coins, .int .i64 x.gst.wk.seq, .int .i64 x.gst.wk.last] 44 rfl rfl (blk_ext (blk_alloc (alloc_last (by (try simp [go_sem]) <;> (try simp [Xt.add]) <;> omega)))) rfl (by kernel_rfl) (by kernel_rfl) ?_); intro W9 hW9 hb9))
  refine bodyPost_ret (res_c1 Try.results9 rfl hb9 Try.underlying44 rfl (by kernel_rfl)) rfl ?_
  exact ⟨rfl, Ext.of_below (Below.chg (w0 := w) (Ext.below (show Ext w _ from (by ((try simp only [ext_drew]); (try simp only [ext_ext]); repeat (first | exact Ext.refl _ | with_reducible apply Ext.add | with_reducible apply Ext.dr | apply Ext.alloc | apply Ext.ext | apply Ext.drew | refine Ext.trans ?_ (by assumption)))))) hW9 (by simp))⟩
end Go.Proofs.Ytnfodkhfoegnaaa

namespace Go.Proofs.Ytnfodkhfoegnaaa
open Go.RowKit
set_option linter.unusedSimpArgs false
set_option linter.unusedVariables false

/-- The pairwise conditions; z: the block that is made at any time; N: the store that waits for all ahead, and for which all behind wait. -/
def gapOkT (ops : Array Oper) (z N : Nat) : Bool :=
  Region.noSelect ops && decide (z < N) && decide (N < ops.size) &&
  ((ops[z]?).map fun oz => oz.after.all fun e => !Region.binds .any e).getD false &&
  ((ops[N]?).map fun oN => isMk oN.op && waits oN z && (List.range N).all fun j => waits oN j || ((ops[j]?).map fun oj => !isMk oj.op).getD false).getD false &&
  (List.range ops.size).all fun j => match ops[j]? with
    | none => false
    | some oj => (oj.after.all fun e => !Region.binds .any e || decide (e.on < j)) &&
      (bif decide (N < j) then waits oj N else true) &&
      (bif decide (j < N) && j != z then ((ops[z]?).map fun oz => oz.apart ops oj && oj.apart ops oz && !waits oj z).getD false else true) &&
      (List.range j).all fun i => match ops[i]? with
        | none => false
        | some oi => bif i == z || j == z then true else segPairT ops oi oj i j
section
variable {P : Program} {ops : Array Oper} {Q : Exit → Act → World → Prop} {base : World} {z N : Nat} {oz oN : Oper}

theorem gapOkT_spec (h : gapOkT ops z N = true) : Region.noSelect ops = true ∧ z < N ∧ N < ops.size ∧ (∀ oz, ops[z]? = some oz → ∀ e ∈ oz.after, Region.binds .any e = false) ∧
    (∀ oN, ops[N]? = some oN → isMk oN.op = true ∧ waits oN z = true ∧ ∀ j oj, j < N → ops[j]? = some oj → isMk oj.op = true → waits oN j = true) ∧
    (∀ j oj, ops[j]? = some oj → (∀ e ∈ oj.after, Region.binds .any e = true → e.on < j) ∧ (N < j → waits oj N = true) ∧
      (j < N → j ≠ z → ∀ oz, ops[z]? = some oz → oz.apart ops oj = true ∧ oj.apart ops oz = true ∧ waits oj z = false) ∧
      ∀ i oi, i < j → ops[i]? = some oi → i ≠ z → j ≠ z → segPairT ops oi oj i j = true) := by
  simp only [gapOkT, Bool.and_eq_true, decide_eq_true_eq, List.all_eq_true, List.mem_range] at h
  obtain ⟨⟨⟨⟨⟨h1, h2⟩, h3⟩, h4⟩, h5⟩, h6⟩ := h
  refine ⟨h1, h2, h3, fun oz hz e he => ?_, fun oN hN => ?_, fun j oj hj => ?_⟩
  · rw [hz] at h4
    simp only [Option.map_some, Option.getD_some, Array.all_eq_true_iff_forall_mem, Bool.not_eq_true'] at h4
    exact h4 e he
  · rw [hN] at h5
    simp only [Option.map_some, Option.getD_some, Bool.and_eq_true, List.all_eq_true, List.mem_range] at h5
    refine ⟨h5.1.1, h5.1.2, fun j oj hj hoj hm => ?_⟩
    have := h5.2 j hj
    rw [hoj] at this
    simpa [hm] using this
  · have hlt : j < ops.size := (Array.getElem?_eq_some_iff.1 hj).1
    have h7 := h6 j hlt
    simp only [hj, Bool.and_eq_true, Array.all_eq_true_iff_forall_mem, List.all_eq_true, List.mem_range] at h7
    obtain ⟨⟨⟨q1, q2⟩, q3⟩, q4⟩ := h7
    refine ⟨fun e he hb => ?_, fun hN => ?_, fun hjN hjz oz hz => ?_, fun i oi hi hoi hiz hjz => ?_⟩
    · have := q1 e he
      rw [hb] at this
      simpa using this
    · simpa [hN] using q2
    · have hne : (j != z) = true := by simpa using hjz
      simp only [hjN, decide_true, hne, Bool.and_self, cond_true, hz, Option.map_some, Option.getD_some, Bool.and_eq_true, Bool.not_eq_true'] at q3
      exact ⟨q3.1.1, q3.1.2, q3.2⟩
    · have := q4 i hi
      simp only [hoi] at this
      have e1 : (i == z) = false := by simpa using hiz
      have e2 : (j == z) = false := by simpa using hjz
      simpa [e1, e2] using this

theorem tail_soundT (hB : gapOkT ops z N = true) (S : World → Prop) (hQ : ∀ c a d (v : Value) w, Q (.panic c) (Act.put a d v) w → Q (.panic c) a w) : ∀ (rem : List Nat) (listed : Array Bool) (a : Act) (w : World), listed.size = ops.size →
    rem.Pairwise (· < ·) → (∀ j ∈ rem, N < j) → (∀ j, j ∈ rem ↔ j < ops.size ∧ listed.getD j true = false) → Closed ops listed → S w → wpMix P ops S Q rem a w → wpAnyH P .any ops Q S rem.length listed a w := by
  obtain ⟨hs, hzN, hNs, _, _, hall⟩ := gapOkT_spec hB
  intro rem
  generalize hn : rem.length = n
  induction n generalizing rem with
  | zero =>
    intro listed a w hsz hpw _ hmem hcl hS h
    obtain rfl := List.eq_nil_of_length_eq_zero hn
    refine ⟨?_, h⟩
    rw [List.eq_nil_iff_forall_not_mem]
    intro j hj
    obtain ⟨h0, o, ho, _⟩ := mem_ready.1 hj
    exact absurd ((hmem j).2 ⟨(Array.getElem?_eq_some_iff.1 ho).1, h0⟩) (by simp)
  | succ n ih =>
    intro listed a w hsz hpw hgt hmem hcl hS h
    have inrem : ∀ j, j ∈ Region.ready .any ops listed → j ∈ rem := fun j hj => by
      obtain ⟨h0, o, ho, _⟩ := mem_ready.1 hj
      exact (hmem j).2 ⟨(Array.getElem?_eq_some_iff.1 ho).1, h0⟩
    have nz : ∀ j ∈ rem, j ≠ z := fun j hj => by have := hgt j hj; omega
    have nowait : ∀ i j oi, ops[i]? = some oi → i ∈ Region.ready .any ops listed → listed.getD j true = false → waits oi j = false := fun i j oi hi hr hj => by
      obtain ⟨_, o, ho, hall⟩ := mem_ready.1 hr
      rw [hi] at ho; obtain rfl := Option.some.inj ho
      cases hwt : waits oi j with
      | false => rfl
      | true =>
        simp only [waits, Array.any_eq_true, Bool.and_eq_true, beq_iff_eq] at hwt
        obtain ⟨q, hq, hb, he⟩ := hwt
        have := hall _ (Array.getElem_mem hq) hb
        rw [he] at this
        rcases Nat.lt_or_ge j listed.size with h' | h'
        · simp [h'] at hj this; rw [hj] at this; cases this
        · simp [Array.getElem?_eq_none h'] at this
    have after : ∀ (i : Nat), i ∈ rem → ∀ (pre post : List Nat), rem = pre ++ i :: post → (∀ j, j ∈ pre ++ post ↔ j < ops.size ∧ (listed.setIfInBounds i true).getD j true = false) ∧ (pre ++ post).Pairwise (· < ·) ∧ (pre ++ post).length = n := fun i hi pre post he => by
      subst he
      have hpp := List.pairwise_append.1 hpw
      obtain ⟨hp1, hp2, hp3⟩ := hpp
      obtain ⟨hp4, hp5⟩ := List.pairwise_cons.1 hp2
      refine ⟨fun j => ?_, ?_, by simp at hn ⊢; omega⟩
      · have hij : i < listed.size := by have := ((hmem i).1 hi).1; omega
        by_cases e : i = j
        · subst e
          constructor
          · intro hj
            rcases List.mem_append.1 hj with hj | hj
            · have := hp3 _ hj i (by simp); omega
            · have := hp4 _ hj; omega
          · rintro ⟨_, hj⟩
            simp [hij] at hj
        · rw [getD_set_ne true e, ← hmem j]
          simp only [List.mem_append, List.mem_cons]
          constructor
          · rintro (hj | hj)
            · exact .inl hj
            · exact .inr (.inr hj)
          · rintro (hj | hj | hj)
            · exact .inl hj
            · exact absurd hj.symm e
            · exact .inr hj
      · exact List.pairwise_append.2 ⟨hp1, hp5, fun x hx y hy => hp3 x hx y (by simp [hy])⟩
    by_cases hp : ∃ i oi, i ∈ Region.ready .any ops listed ∧ ops[i]? = some oi ∧ isMk oi.op = false
    · obtain ⟨i, oi, hr, hi, hpure⟩ := hp
      have him := inrem i hr
      obtain ⟨pre, post, he⟩ := List.append_of_mem him
      obtain ⟨q1, q2, q3⟩ := after i him pre post he
      have hlt : ∀ k ∈ pre, k < i := fun k hk => by
        rw [he] at hpw
        exact (List.pairwise_append.1 hpw).2.2 k hk i (by simp)
      have hfree : ∀ j oj, ops[j]? = some oj → j ≠ i → listed.getD j true = false → waits oj i = false → oi.apart ops oj = true := fun j oj hj hne hun hno => by
        have hjr := (hmem j).2 ⟨(Array.getElem?_eq_some_iff.1 hj).1, hun⟩
        rcases Nat.lt_or_ge j i with hji | hji
        · exact segPairT_r ((hall i oi hi).2.2.2 j oj hji hj (nz j hjr) (nz i him)) hpure (nowait i j oi hi hr hun)
        · exact segPairT_l ((hall j oj hj).2.2.2 i oi (by omega) hi (nz i him) (nz j hjr)) hpure hno
      rw [he] at h
      obtain ⟨v, hy, hh⟩ := mix_hoist hs hi hpure pre post a w hS (fun k hk => by
        have hkm : k ∈ rem := by rw [he]; simp [hk]
        obtain ⟨k1, k2⟩ := (hmem k).1 hkm
        obtain ⟨ok, hok⟩ : ∃ ok, ops[k]? = some ok := ⟨_, Array.getElem?_eq_getElem k1⟩
        have hki := hlt k hk
        refine ⟨ok, hok, hfree k ok hok (by omega) k2 ?_⟩
        cases hwt : waits ok i with
        | false => rfl
        | true =>
          simp only [waits, Array.any_eq_true, Bool.and_eq_true, beq_iff_eq] at hwt
          obtain ⟨q, hq, hb, he'⟩ := hwt
          have := (hall k ok hok).1 _ (Array.getElem_mem hq) hb
          omega) h
      refine wpAnyH_first hi (Region.noSelect_spec hs) (fun c a w => hQ c a _ _ w) n listed a w (fun j oj hj hne hun hno => hfree j oj hj hne hun ?_) hr hy hS ?_
      · cases hwt : waits oj i with
        | false => rfl
        | true =>
          simp only [waits, Array.any_eq_true, Bool.and_eq_true, beq_iff_eq] at hwt
          obtain ⟨q, hq, hb, he'⟩ := hwt
          exact absurd he' (hno _ (Array.getElem_mem hq) hb)
      · exact ih (pre ++ post) q3 _ _ _ (by simp [hsz]) q2 (fun j hj => hgt j (by rw [he]; rcases List.mem_append.1 hj with h' | h' <;> simp [h'])) q1 (hcl.step hr) hS hh
    · cases rem with
      | nil => simp at hn
      | cons k rest =>
        obtain ⟨k1, k2⟩ := (hmem k).1 (by simp)
        obtain ⟨ok, hok⟩ : ∃ ok, ops[k]? = some ok := ⟨_, Array.getElem?_eq_getElem k1⟩
        obtain ⟨hpk, hpr⟩ := List.pairwise_cons.1 hpw
        have hkr : k ∈ Region.ready .any ops listed := by
          refine mem_ready.2 ⟨k2, ok, hok, fun e he hb => ?_⟩
          have hlt := (hall k ok hok).1 e he hb
          cases hl : listed.getD e.on true with
          | true =>
            have : e.on < listed.size := by omega
            simp [this] at hl ⊢; exact hl
          | false =>
            have := (hmem e.on).2 ⟨by omega, hl⟩
            rcases List.mem_cons.1 this with h' | h'
            · omega
            · have := hpk _ h'; omega
        have hmk : isMk ok.op = true := by
          cases hm : isMk ok.op with
          | true => rfl
          | false => exact absurd ⟨k, ok, hkr, hok, hm⟩ hp
        have only : ∀ j, j ∈ Region.ready .any ops listed → j = k := fun j hj => by
          rcases List.mem_cons.1 (inrem j hj) with h' | h'
          · exact h'
          · exfalso
            have hkj := hpk j h'
            obtain ⟨_, oj, hoj, _⟩ := mem_ready.1 hj
            have hmj : isMk oj.op = true := by
              cases hm : isMk oj.op with
              | true => rfl
              | false => exact absurd ⟨j, oj, hj, hoj, hm⟩ hp
            have h1 := segPairT_mk ((hall j oj hoj).2.2.2 k ok hkj hok (nz k (by simp)) (nz j (by simp [h']))) hmk hmj
            have h2 := hcl.reach (ops.size) j k (by
              obtain ⟨_, o2, ho2, hall2⟩ := mem_ready.1 hj
              intro o ho e he hb
              rw [ho2] at ho; obtain rfl := Option.some.inj ho
              exact hall2 e he hb) h1
            have : k < listed.size := by omega
            simp [this] at k2 h2
            rw [k2] at h2; cases h2
        obtain ⟨q1, q2, q3⟩ := after k (by simp) [] rest rfl
        simp only [List.nil_append] at q1 q2 q3
        refine ⟨fun h0 => (by rw [h0] at hkr; cases hkr), fun j hj => ?_⟩
        obtain rfl := only j hj
        simp only [wpMix, hok, hmk, if_true] at h
        unfold wpOp
        simp only [hok]
        split
        · rename_i hw
          simp only [hw, if_true] at h
          exact .inl (wp_Qn (fun a' w' ⟨h1, h2⟩ => ⟨h1, ih rest q3 _ _ _ (by simp [hsz]) q2 (fun j hj => hgt j (by simp [hj])) q1 (hcl.step hkr) h1 h2⟩) h)
        · rename_i hw
          simp only [hw] at h
          exact ⟨hS, ih rest q3 _ _ _ (by simp [hsz]) q2 (fun j hj => hgt j (by simp [hj])) q1 (hcl.step hkr) hS h⟩

theorem gap_soundT {zobj : Obj} (hB : gapOkT ops z N = true) (hz : ops[z]? = some oz) (hN : ops[N]? = some oN) (hgz : oz.guard = none) (hgN : oN.guard = none) (hmz : isMk oz.op = true)
    (hrun : ∀ (a : Act) (w : World), (execOp a.eval oz).run P w = .ok (.value (ptrTo w.heap.size)) (w.alloc zobj)) (hQ : ∀ c a d (v : Value) w, Q (.panic c) (Act.put a d v) w → Q (.panic c) a w) :
    ∀ (n : Nat) (rem : List Nat) (listed : Array Bool) (a : Act) (az : Option Nat) (iv : List (Nat × Nat)) (w : World), listed.size = ops.size → rem.Pairwise (· < ·) → n = rem.length + (if az.isNone then 1 else 0) →
      (∀ j, j ∈ rem ↔ j < N ∧ j ≠ z ∧ listed.getD j true = false) → listed.getD z true = az.isSome → (∀ j, N ≤ j → j < ops.size → listed.getD j true = false) → Closed ops listed → Ext base w → (∀ q ∈ iv, q.2 ≤ w.heap.size) →
      (∀ p, az = some p → base.heap.size ≤ p ∧ w.heap[p]? = some zobj ∧ ∀ q ∈ iv, p < q.1 ∨ q.2 ≤ p) → wpGap P ops base (gapK P ops Q base N oz oN zobj) rem iv a w →
      wpAnyH P .any ops Q (fun w' => Ext base w') (n + (ops.size - N)) listed (azPut oz.dst az a) w := by
  obtain ⟨hs, hzN, hNs, hzf, hNw, hall⟩ := gapOkT_spec hB
  have wantz : ∀ y, Region.wanted oz y = true := fun y => by simp [Region.wanted, hgz]
  have wantN : ∀ y, Region.wanted oN y = true := fun y => by simp [Region.wanted, hgN]
  intro n
  induction n with
  | zero =>
    intro rem listed a az iv w hsz hpw hn hmem hlz hge hcl hE hiv haz h
    obtain rfl : rem = [] := List.eq_nil_of_length_eq_zero (by omega)
    cases az with
    | none => simp at hn
    | some p =>
      have nowait : ∀ i j oi, ops[i]? = some oi → i ∈ Region.ready .any ops listed → listed.getD j true = false → waits oi j = false := fun i j oi hi hr hj => by
        obtain ⟨_, o, ho, hall⟩ := mem_ready.1 hr
        rw [hi] at ho; obtain rfl := Option.some.inj ho
        cases hwt : waits oi j with
        | false => rfl
        | true =>
          simp only [waits, Array.any_eq_true, Bool.and_eq_true, beq_iff_eq] at hwt
          obtain ⟨q, hq, hb, he⟩ := hwt
          have := hall _ (Array.getElem_mem hq) hb
          rw [he] at this
          rcases Nat.lt_or_ge j listed.size with h' | h'
          · simp [h'] at hj this; rw [hj] at this; cases this
          · simp [Array.getElem?_eq_none h'] at this
      have lst : ∀ j, j < N → listed.getD j true = true := fun j hj => by
        by_cases e : j = z
        · subst e; rw [hlz]; rfl
        · cases hl : listed.getD j true with
          | true => rfl
          | false => exact absurd ((hmem j).2 ⟨hj, e, hl⟩) (by simp)
      have hNr : N ∈ Region.ready .any ops listed := by
        refine mem_ready.2 ⟨hge N (Nat.le_refl _) hNs, oN, hN, fun e he hb => ?_⟩
        have hlt := (hall N oN hN).1 e he hb
        have h1 := lst e.on hlt
        have : e.on < listed.size := by omega
        simp [this] at h1 ⊢; exact h1
      have only : ∀ j, j ∈ Region.ready .any ops listed → j = N := fun j hj => by
        obtain ⟨h0, oj, hoj, _⟩ := mem_ready.1 hj
        have hjs := (Array.getElem?_eq_some_iff.1 hoj).1
        rcases Nat.lt_trichotomy j N with h' | h' | h'
        · rw [lst j h'] at h0; cases h0
        · exact h'
        · have h1 := (hall j oj hoj).2.1 h'
          rw [nowait j N oj hoj hj (hge N (Nat.le_refl _) hNs)] at h1
          cases h1
      rw [show 0 + (ops.size - N) = (ops.size - (N + 1)) + 1 by omega]
      refine ⟨fun h0 => (by rw [h0] at hNr; cases hNr), fun j hj => ?_⟩
      obtain rfl := only j hj
      obtain ⟨hp1, hp2, hp3⟩ := haz p rfl
      have h1 := h w p (Ext.refl w) hE hp1 hp2 hp3
      unfold wpOp
      simp only [hN, wantN, if_true]
      refine .inl (wp_Qn (fun a' w' ⟨q1, q2⟩ => ⟨q1, ?_⟩) h1)
      have h2 := tail_soundT hB (fun w' => Ext base w') hQ (List.range' (j + 1) (ops.size - (j + 1))) (listed.setIfInBounds j true) a' w' (by simp [hsz]) List.pairwise_lt_range' (fun k hk => by simp only [List.mem_range'_1] at hk; omega) (fun k => by
        simp only [List.mem_range'_1]
        constructor
        · intro hk
          refine ⟨by omega, ?_⟩
          rw [getD_set_ne true (by omega)]
          exact hge k (by omega) (by omega)
        · rintro ⟨k1, k2⟩
          refine ⟨?_, by omega⟩
          rcases Nat.lt_trichotomy k j with h' | h' | h'
          · rw [getD_set_ne true (by omega), lst k h'] at k2; cases k2
          · subst h'
            have : k < listed.size := by omega
            simp [this] at k2
          · omega) (hcl.step hNr) q1 q2
      simpa using h2
  | succ n ih =>
    intro rem listed a az iv w hsz hpw hn hmem hlz hge hcl hE hiv haz h
    have nowait : ∀ i j oi, ops[i]? = some oi → i ∈ Region.ready .any ops listed → listed.getD j true = false → waits oi j = false := fun i j oi hi hr hj => by
      obtain ⟨_, o, ho, hall⟩ := mem_ready.1 hr
      rw [hi] at ho; obtain rfl := Option.some.inj ho
      cases hwt : waits oi j with
      | false => rfl
      | true =>
        simp only [waits, Array.any_eq_true, Bool.and_eq_true, beq_iff_eq] at hwt
        obtain ⟨q, hq, hb, he⟩ := hwt
        have := hall _ (Array.getElem_mem hq) hb
        rw [he] at this
        rcases Nat.lt_or_ge j listed.size with h' | h'
        · simp [h'] at hj this; rw [hj] at this; cases this
        · simp [Array.getElem?_eq_none h'] at this
    have low : ∀ j, j ∈ Region.ready .any ops listed → j = z ∨ j ∈ rem ∨ j = N := fun j hj => by
      obtain ⟨h0, oj, hoj, _⟩ := mem_ready.1 hj
      rcases Nat.lt_trichotomy j N with h' | h' | h'
      · by_cases e : j = z
        · exact .inl e
        · exact .inr (.inl ((hmem j).2 ⟨h', e, h0⟩))
      · exact .inr (.inr h')
      · have h1 := (hall j oj hoj).2.1 h'
        rw [nowait j N oj hoj hj (hge N (Nat.le_refl _) hNs)] at h1
        cases h1
    have headmk : (¬ ∃ i oi, i ∈ Region.ready .any ops listed ∧ ops[i]? = some oi ∧ isMk oi.op = false) → ∀ p k rest, az = some p → rem = k :: rest → ∃ ok, ops[k]? = some ok ∧ isMk ok.op = true := fun hp p k rest haz1 hrem => by
      obtain ⟨k1, k0, k2⟩ := (hmem k).1 (by rw [hrem]; simp)
      obtain ⟨ok, hok⟩ : ∃ ok, ops[k]? = some ok := ⟨_, Array.getElem?_eq_getElem (by omega)⟩
      refine ⟨ok, hok, ?_⟩
      cases hm : isMk ok.op with
      | true => rfl
      | false =>
        exfalso
        refine hp ⟨k, ok, mem_ready.2 ⟨k2, ok, hok, fun e he hb => ?_⟩, hok, hm⟩
        have hlt := (hall k ok hok).1 e he hb
        rw [hrem] at hpw
        obtain ⟨hpk, _⟩ := List.pairwise_cons.1 hpw
        cases hl : listed.getD e.on true with
        | true =>
          have : e.on < listed.size := by omega
          simp [this] at hl ⊢; exact hl
        | false =>
          by_cases ez : e.on = z
          · rw [ez, hlz, haz1] at hl; cases hl
          · have := (hmem e.on).2 ⟨by omega, ez, hl⟩
            rw [hrem] at this
            rcases List.mem_cons.1 this with h' | h'
            · omega
            · have := hpk _ h'; omega
    have after : ∀ (i : Nat), i ∈ rem → ∀ (pre post : List Nat), rem = pre ++ i :: post → (∀ j, j ∈ pre ++ post ↔ j < N ∧ j ≠ z ∧ (listed.setIfInBounds i true).getD j true = false) ∧ (pre ++ post).Pairwise (· < ·) ∧ (pre ++ post).length + 1 = rem.length ∧ (listed.setIfInBounds i true).getD z true = az.isSome ∧ (∀ j, N ≤ j → j < ops.size → (listed.setIfInBounds i true).getD j true = false) := fun i hi pre post he => by
      have hi1 := (hmem i).1 hi
      subst he
      have hpp := List.pairwise_append.1 hpw
      obtain ⟨hp1, hp2, hp3⟩ := hpp
      obtain ⟨hp4, hp5⟩ := List.pairwise_cons.1 hp2
      refine ⟨fun j => ?_, ?_, by simp; omega, ?_, fun j h1 h2 => ?_⟩
      · have hij : i < listed.size := by omega
        by_cases e : i = j
        · subst e
          constructor
          · intro hj
            rcases List.mem_append.1 hj with hj | hj
            · have := hp3 _ hj i (by simp); omega
            · have := hp4 _ hj; omega
          · rintro ⟨_, _, hj⟩
            simp [hij] at hj
        · rw [getD_set_ne true e, ← hmem j]
          simp only [List.mem_append, List.mem_cons]
          constructor
          · rintro (hj | hj)
            · exact .inl hj
            · exact .inr (.inr hj)
          · rintro (hj | hj | hj)
            · exact .inl hj
            · exact absurd hj.symm e
            · exact .inr hj
      · exact List.pairwise_append.2 ⟨hp1, hp5, fun x hx y hy => hp3 x hx y (by simp [hy])⟩
      · rw [getD_set_ne true (by omega)]; exact hlz
      · rw [getD_set_ne true (by omega)]; exact hge j h1 h2
    rw [show n + 1 + (ops.size - N) = (n + (ops.size - N)) + 1 by omega]
    by_cases hp : ∃ i oi, i ∈ Region.ready .any ops listed ∧ ops[i]? = some oi ∧ isMk oi.op = false
    · obtain ⟨i, oi, hr, hi, hpure⟩ := hp
      have him : i ∈ rem := by
        rcases low i hr with e | e | e
        · subst e; rw [hz] at hi; obtain rfl := Option.some.inj hi; rw [hmz] at hpure; cases hpure
        · exact e
        · subst e; rw [hN] at hi; obtain rfl := Option.some.inj hi; rw [(hNw oN hN).1] at hpure; cases hpure
      have hi1 := (hmem i).1 him
      obtain ⟨pre, post, he⟩ := List.append_of_mem him
      obtain ⟨q1, q2, q3, q4, q5⟩ := after i him pre post he
      have hlt : ∀ k ∈ pre, k < i := fun k hk => by
        rw [he] at hpw
        exact (List.pairwise_append.1 hpw).2.2 k hk i (by simp)
      obtain ⟨apz1, apz2, _⟩ := (hall i oi hi).2.2.1 hi1.1 hi1.2.1 oz hz
      have hfree : ∀ j oj, ops[j]? = some oj → j ≠ i → listed.getD j true = false → waits oj i = false → oi.apart ops oj = true := fun j oj hj hne hun hno => by
        by_cases ez : j = z
        · subst ez; rw [hz] at hj; obtain rfl := Option.some.inj hj; exact apz2
        · rcases Nat.lt_or_ge j i with hji | hji
          · exact segPairT_r ((hall i oi hi).2.2.2 j oj hji hj ez hi1.2.1) hpure (nowait i j oi hi hr hun)
          · exact segPairT_l ((hall j oj hj).2.2.2 i oi (by omega) hi hi1.2.1 ez) hpure hno
      rw [he] at h
      obtain ⟨v, hy, hh⟩ := gap_hoist hs hi hpure pre post iv a w hE (fun k hk => by
        have hkm : k ∈ rem := by rw [he]; simp [hk]
        obtain ⟨k1, k0, k2⟩ := (hmem k).1 hkm
        obtain ⟨ok, hok⟩ : ∃ ok, ops[k]? = some ok := ⟨_, Array.getElem?_eq_getElem (by omega)⟩
        have hki := hlt k hk
        refine ⟨ok, hok, hfree k ok hok (by omega) k2 ?_⟩
        cases hwt : waits ok i with
        | false => rfl
        | true =>
          simp only [waits, Array.any_eq_true, Bool.and_eq_true, beq_iff_eq] at hwt
          obtain ⟨q, hq, hb, he'⟩ := hwt
          have := (hall k ok hok).1 _ (Array.getElem_mem hq) hb
          omega) h
      obtain ⟨z1, z2, z3⟩ := Oper.apart_spec apz1
      have hy' : YieldsIf P ops (fun w' => Ext base w') oi v (azPut oz.dst az a) := by
        cases az with
        | none => exact hy
        | some p => exact hy.of_same (execOp_put oi (fun cs b => Region.noSelect_spec hs i oi cs b hi) a oz.dst _ z1) (wanted_put oi a oz.dst _ z1)
      have h2 := ih (pre ++ post) (listed.setIfInBounds i true) (a.put oi.dst v) az iv w (by simp [hsz]) q2 (by omega) q1 q4 q5 (hcl.step hr) hE hiv haz hh
      have e2 : (azPut oz.dst az (a.put oi.dst v)) = (azPut oz.dst az a).put oi.dst v := by
        cases az with
        | none => rfl
        | some p => exact (Act.put_comm a (ptrTo p) v z2).symm
      rw [e2] at h2
      refine wpAnyH_first hi (Region.noSelect_spec hs) (fun c a w => hQ c a _ _ w) _ listed _ w (fun j oj hj hne hun hno => hfree j oj hj hne hun ?_) hr hy' hE h2
      cases hwt : waits oj i with
      | false => rfl
      | true =>
        simp only [waits, Array.any_eq_true, Bool.and_eq_true, beq_iff_eq] at hwt
        obtain ⟨q, hq, hb, he'⟩ := hwt
        exact absurd he' (hno _ (Array.getElem_mem hq) hb)
    · have nonempty : Region.ready .any ops listed ≠ [] := by
        intro h0
        have key : ∃ j, j ∈ Region.ready .any ops listed := by
          cases az with
          | none => exact ⟨z, mem_ready.2 ⟨by rw [hlz]; rfl, oz, hz, fun e he hb => by rw [hzf oz hz e he] at hb; cases hb⟩⟩
          | some p =>
            cases rem with
            | nil => simp at hn
            | cons k rest =>
              obtain ⟨k1, k0, k2⟩ := (hmem k).1 (by simp)
              obtain ⟨ok, hok⟩ : ∃ ok, ops[k]? = some ok := ⟨_, Array.getElem?_eq_getElem (by omega)⟩
              obtain ⟨hpk, _⟩ := List.pairwise_cons.1 hpw
              refine ⟨k, mem_ready.2 ⟨k2, ok, hok, fun e he hb => ?_⟩⟩
              have hlt := (hall k ok hok).1 e he hb
              cases hl : listed.getD e.on true with
              | true =>
                have : e.on < listed.size := by omega
                simp [this] at hl ⊢; exact hl
              | false =>
                by_cases ez : e.on = z
                · rw [ez, hlz] at hl; cases hl
                · have := (hmem e.on).2 ⟨by omega, ez, hl⟩
                  rcases List.mem_cons.1 this with h' | h'
                  · omega
                  · have := hpk _ h'; omega
        obtain ⟨j, hj⟩ := key
        rw [h0] at hj; cases hj
      refine ⟨fun h0 => absurd h0 nonempty, fun j hj => ?_⟩
      have notN : j ≠ N := fun ejN => by
        subst ejN
        cases haz1 : az with
        | none =>
          have h1 := (hNw oN hN).2.1
          rw [nowait j z oN hN hj (by rw [hlz, haz1]; rfl)] at h1
          cases h1
        | some p =>
          cases hrem : rem with
          | nil => rw [haz1, hrem] at hn; simp at hn
          | cons k rest =>
            obtain ⟨ok, hok, hmk⟩ := headmk hp p k rest haz1 hrem
            have hk := (hmem k).1 (by rw [hrem]; simp)
            have h1 := (hNw oN hN).2.2 k ok hk.1 hok hmk
            rw [nowait j k oN hN hj hk.2.2] at h1
            cases h1
      rcases low j hj with ez | hjm | ejN
      rotate_left 2
      · exact absurd ejN notN
      · subst ez
        have haz0 : az = none := by
          have h0 := (mem_ready.1 hj).1
          rw [hlz] at h0
          cases az with
          | none => rfl
          | some p => cases h0
        subst haz0
        unfold wpOp
        simp only [hz, wantz, if_true]
        refine .inl ?_
        unfold Oper.wp
        rw [hrun]
        simp only [Oper.upon]
        have hE' : Ext w (w.alloc zobj) := (Ext.refl w).alloc zobj
        refine ⟨hE.trans hE', ?_⟩
        exact ih rem (listed.setIfInBounds j true) a (some w.heap.size) iv (w.alloc zobj) (by simp [hsz]) hpw (by simpa using hn) (fun k => by
          by_cases e : j = k
          · subst e
            constructor
            · intro hk; exact absurd rfl ((hmem j).1 hk).2.1
            · rintro ⟨_, h', _⟩; exact absurd rfl h'
          · rw [getD_set_ne true e, hmem k]) (by
          have : j < listed.size := by omega
          simp [this]) (fun k h1 h2 => by rw [getD_set_ne true (by omega)]; exact hge k h1 h2) (hcl.step hj) (hE.trans hE') (fun q hq => Nat.le_trans (hiv q hq) hE'.size) (fun p hp' => by
          obtain rfl := Option.some.inj hp'
          exact ⟨hE.size, heap_alloc_new w zobj, fun q hq => .inr (hiv q hq)⟩) (gap_mono (gapK_mono (zobj := zobj)) rem iv a w _ h hE')
      · obtain ⟨_, oj, hoj, _⟩ := mem_ready.1 hj
        have hmj : isMk oj.op = true := by
          cases hm : isMk oj.op with
          | true => rfl
          | false => exact absurd ⟨j, oj, hj, hoj, hm⟩ hp
        cases rem with
        | nil => simp at hjm
        | cons k rest =>
          obtain ⟨k1, k0, k2⟩ := (hmem k).1 (by simp)
          obtain ⟨ok, hok⟩ : ∃ ok, ops[k]? = some ok := ⟨_, Array.getElem?_eq_getElem (by omega)⟩
          obtain ⟨hpk, _⟩ := List.pairwise_cons.1 hpw
          have ejk : j = k := by
            rcases List.mem_cons.1 hjm with h' | h'
            · exact h'
            · exfalso
              have hkj := hpk j h'
              have hj1 := (hmem j).1 hjm
              have hmk : isMk ok.op = true := by
                cases hm : isMk ok.op with
                | true => rfl
                | false =>
                  -- it would be ready, or waits
                  have hsp := (hall j oj hoj).2.2.2 k ok hkj hok k0 hj1.2.1
                  exfalso
                  refine hp ⟨k, ok, ?_, hok, hm⟩
                  refine mem_ready.2 ⟨k2, ok, hok, fun e he hb => ?_⟩
                  have hlt := (hall k ok hok).1 e he hb
                  cases hl : listed.getD e.on true with
                  | true =>
                    have : e.on < listed.size := by omega
                    simp [this] at hl ⊢; exact hl
                  | false =>
                    by_cases ez : e.on = z
                    · obtain ⟨_, _, hwz⟩ := (hall k ok hok).2.2.1 k1 k0 oz hz
                      have : waits ok z = true := by
                        simp only [waits, Array.any_eq_true, Bool.and_eq_true, beq_iff_eq]
                        obtain ⟨x, hx, hxe⟩ := Array.mem_iff_getElem.1 he
                        exact ⟨x, hx, by rw [hxe]; exact hb, by rw [hxe]; exact ez⟩
                      rw [this] at hwz; cases hwz
                    · have := (hmem e.on).2 ⟨by omega, ez, hl⟩
                      rcases List.mem_cons.1 this with h'' | h''
                      · omega
                      · have := hpk _ h''; omega
              have h1 := segPairT_mk ((hall j oj hoj).2.2.2 k ok hkj hok k0 hj1.2.1) hmk hmj
              have h2 := hcl.reach (ops.size) j k (by
                obtain ⟨_, o2, ho2, hall2⟩ := mem_ready.1 hj
                intro o ho e he hb
                rw [ho2] at ho; obtain rfl := Option.some.inj ho
                exact hall2 e he hb) h1
              have : k < listed.size := by omega
              simp [this] at k2 h2
              rw [k2] at h2; cases h2
          subst ejk
          rw [hok] at hoj; obtain rfl := Option.some.inj hoj
          obtain ⟨q1, q2, q3, q4, q5⟩ := after j (by simp) [] rest rfl
          simp only [List.nil_append] at q1 q2 q3
          obtain ⟨apz1, apz2, _⟩ := (hall j ok hok).2.2.1 k1 k0 oz hz
          obtain ⟨z1, z2, z3⟩ := Oper.apart_spec apz1
          have hsel := fun cs b => Region.noSelect_spec hs j ok cs b hok
          simp only [wpGap, hok, hmj, if_true] at h
          simp only [List.length_cons] at hn q3
          have nx : ∀ (a' : Act) (w' : World), Ext w w' → wpGap P ops base (gapK P ops Q base N oz oN zobj) rest ((w.heap.size, w'.heap.size) :: iv) a' w' →
              wpAnyH P .any ops Q (fun w' => Ext base w') (n + (ops.size - N)) (listed.setIfInBounds j true) (azPut oz.dst az a') w' := fun a' w' hE' hh =>
            ih rest (listed.setIfInBounds j true) a' az ((w.heap.size, w'.heap.size) :: iv) w' (by simp [hsz]) q2 (by omega) q1 q4 q5 (hcl.step hj) (hE.trans hE') (fun q hq => by
              rcases List.mem_cons.1 hq with rfl | hq
              · exact Nat.le_refl _
              · exact Nat.le_trans (hiv q hq) hE'.size) (fun p hp' => by
              obtain ⟨p1, p2, p3⟩ := haz p hp'
              have hlt : p < w.heap.size := (Array.getElem?_eq_some_iff.1 p2).1
              refine ⟨p1, (hE'.block hlt).trans p2, fun q hq => ?_⟩
              rcases List.mem_cons.1 hq with rfl | hq
              · exact .inl hlt
              · exact p3 q hq) hh
          unfold wpOp
          simp only [hok]
          cases az with
          | none =>
            by_cases hw : Region.wanted ok (yielded ops a.tmps) = true
            · simp only [hw, if_true] at h
              rw [if_pos (show Region.wanted ok (yielded ops (azPut oz.dst none a).tmps) = true from hw)]
              exact .inl (wp_Qn (fun a' w' ⟨h1, h2⟩ => ⟨hE.trans h1, nx a' w' h1 h2⟩) (h w (Ext.refl w)))
            · simp only [hw] at h
              rw [if_neg (show ¬ Region.wanted ok (yielded ops (azPut oz.dst none a).tmps) = true from hw)]
              refine ⟨hE, ?_⟩
              exact ih rest (listed.setIfInBounds j true) (a.put ok.dst undef) none iv w (by simp [hsz]) q2 (by simp at hn ⊢; omega) q1 q4 q5 (hcl.step hj) hE hiv haz h
          | some p =>
            have ew := wanted_put ok a oz.dst (ptrTo p) z1
            by_cases hw : Region.wanted ok (yielded ops a.tmps) = true
            · simp only [hw, if_true] at h
              rw [if_pos (show Region.wanted ok (yielded ops (azPut oz.dst (some p) a).tmps) = true from ew.trans hw)]
              refine .inl (wp_Qn (K := fun a' w' => Ext base w' ∧ wpAnyH P .any ops Q (fun w' => Ext base w') (n + (ops.size - N)) (listed.setIfInBounds j true) a' w') (fun _ _ h => h) ?_)
              refine wp_put_other (ops := ops) (a := a) (d := oz.dst) (v := ptrTo p) hsel z1 z2 ?_
              exact wp_Qn' (fun a' w' ⟨h1, h2⟩ => ⟨hE.trans h1, nx a' w' h1 h2⟩) (h w (Ext.refl w))
            · simp only [hw] at h
              rw [if_neg (show ¬ Region.wanted ok (yielded ops (azPut oz.dst (some p) a).tmps) = true from fun h' => hw (ew.symm.trans h'))]
              refine ⟨hE, ?_⟩
              show wpAnyH P .any ops Q (fun w' => Ext base w') (n + (ops.size - N)) (listed.setIfInBounds j true) ((a.put oz.dst (ptrTo p)).put ok.dst undef) w
              rw [Act.put_comm a (ptrTo p) undef z2]
              exact ih rest (listed.setIfInBounds j true) (a.put ok.dst undef) (some p) iv w (by simp [hsz]) q2 (by simp at hn ⊢; omega) q1 q4 q5 (hcl.step hj) hE hiv haz h
end
section
variable {Q : Exit → Act → World → Prop}
/-- The region: all ahead of the store in the order of the text, but for the block made at any time; then that block p, holding what was stored, in a world that is new. -/
theorem wp_region_gapT (z N : Nat) (zarr : Array Value) (T : TypeId) {id : Nat} {a : Act} {w : World} {l : List Oper} {oz oN : Oper} {l1 l2 : List Oper} {zd : Nat} {y : Operand} (hm : Try.prog.follows .mixedOrders = true) (hB : gapOkT l.toArray z N = true)
    (hz : l.toArray[z]? = some oz) (hN : l.toArray[N]? = some oN) (hgz : oz.guard = none) (hgN : oN.guard = none) (hmz : isMk oz.op = true) (hzd : oz.dst = some zd)
    (hrun : ∀ (a : Act) (w : World), (execOp a.eval oz).run Try.prog w = .ok (.value (.pointer (some ⟨w.heap.size, 0, none⟩))) (w.alloc (.cells zarr T)))
    (h1 : ((List.range N).filter (fun i => i != z)).map (fun i => l.toArray[i]?) = l1.map some) (hlen : ((List.range N).filter (fun i => i != z)).length + 1 = N) (h2 : l.drop (N + 1) = l2)
    (hop : oN.op = .store T (.tmp zd) y) (hdN : oN.dst = none) (hsz : (Try.prog.info? T).map (·.size) = some zarr.size)
    (h : wpGapL Try.prog l.toArray w (fun iv a w2 => ∀ W p, Ext w2 W → w.heap.size ≤ p → p < W.heap.size → (∀ q ∈ iv, p < q.1 ∨ q.2 ≤ p) → ∃ vs : List Value, (a.put (some zd) (.pointer (some ⟨p, 0, none⟩))).eval y = .agg vs.toArray ∧ vs.length = zarr.size ∧ (∀ v ∈ vs, v.oneCell' = true) ∧
      ((a.put (some zd) (.pointer (some ⟨p, 0, none⟩))).eval (.tmp zd) = .pointer (some ⟨p, 0, none⟩)) ∧
      ∀ W', Ext w W' → Chg [p] W W' → W'.heap[p]? = some (.cells vs.toArray T (0, 0)) → wpMixL Try.prog l.toArray (fun w' => ∃ t, w' = ext w t) (Qt Q) l2 (a.put (some zd) (.pointer (some ⟨p, 0, none⟩))) W') l1 [] a w.drew) : (Code.region id l.toArray true).wp Try.prog Q a w := by
  refine Code.wp_mono (Q := Qt Q) (fun e a w h => by cases e <;> first | exact h | exact False.elim h) (wp_region_held (S := fun w' => Ext w w') hm ?_)
  have hs := gapOkT_spec hB
  have hNs := hs.2.2.1
  have hrep : ∀ j, j < l.toArray.size → (Array.replicate l.toArray.size false).getD j true = false := fun j hj => by
    have h' : j < l.length := by simpa using hj
    simp [h']
  have kk : ∀ iv a w2, (fun iv a w2 => ∀ W p, Ext w2 W → w.heap.size ≤ p → p < W.heap.size → (∀ q ∈ iv, p < q.1 ∨ q.2 ≤ p) → ∃ vs : List Value, (a.put (some zd) (.pointer (some ⟨p, 0, none⟩))).eval y = .agg vs.toArray ∧ vs.length = zarr.size ∧ (∀ v ∈ vs, v.oneCell' = true) ∧
      ((a.put (some zd) (.pointer (some ⟨p, 0, none⟩))).eval (.tmp zd) = .pointer (some ⟨p, 0, none⟩)) ∧
      ∀ W', Ext w W' → Chg [p] W W' → W'.heap[p]? = some (.cells vs.toArray T (0, 0)) → wpMixL Try.prog l.toArray (fun w' => ∃ t, w' = ext w t) (Qt Q) l2 (a.put (some zd) (.pointer (some ⟨p, 0, none⟩))) W') iv a w2 → gapK Try.prog l.toArray (Qt Q) w N oz oN (.cells zarr T) iv a w2 := by
    intro iv a w2 hK W p hE hB0 hp hb hiv
    have hlt := lt_blk hb
    obtain ⟨vs, q1, q2, q3, q5, q4⟩ := hK W p hE (by simpa using hp) hlt hiv
    have hst := st_blk (P := Try.prog) (b := p) (T := T) vs zarr W 0 0 hb (by omega) q3
    have hsize := sizeOf_run hsz W
    have hch : Chg [p] W (setRow W p 0 vs) := Chg.setRow (by simp) vs (Chg.refl _ _)
    have hbl : (setRow W p 0 vs).heap[p]? = some (.cells vs.toArray T (0, 0)) := by
      have := blk_setRow vs (o := 0) hb
      rwa [putRow_all vs zarr q2] at this
    have hEW : Ext w (setRow W p 0 vs) := Ext.of_below (Below.chg (w0 := w) hB0.below hch fun k hk => (by
      obtain rfl : k = p := by simpa using hk
      exact hp))
    have h4 := q4 _ hEW hch hbl
    have h5 := mix_of_list (P := Try.prog) (S := fun w' => ∃ t, w' = ext w t) (Q := Qt Q) l2 (N + 1) _ _ (fun j => by rw [← h2]; simp [List.getElem?_drop]) h4
    have el : l2.length = l.toArray.size - (N + 1) := by rw [← h2]; simp
    rw [el] at h5
    unfold Oper.wp execOp
    have hrun2 : (Instr.storeAt T (.pointer (some ⟨p, 0, none⟩)) (.agg vs.toArray)).run Try.prog W = .ok () (setRow W p 0 vs) := by
      have hst' : (storeCells ⟨p, 0, none⟩ vs 0).run Try.prog W = .ok () (setRow W p 0 vs) := by simpa using hst
      simp [Instr.storeAt, Instr.sureAddr, storeVar, Sem.run_bind, hsize, Value.cells, hst', q2]
    rw [hzd]
    simp only [hop, ptrTo, q1, q5, Sem.run_bind, hrun2, Result.andThen_ok]
    refine ⟨hEW, ?_⟩
    rw [hdN]
    exact h5
  have g := gap_soundT (P := Try.prog) (Q := Qt Q) (base := w) (zobj := .cells zarr T) hB hz hN hgz hgN hmz hrun (fun c a d v w h => h) (((List.range N).filter (fun i => i != z)).length + 1) ((List.range N).filter (fun i => i != z)) (Array.replicate l.toArray.size false) a none [] w.drew (by simp) (List.Pairwise.filter _ List.pairwise_lt_range) (by simp)
    (fun j => by
      simp only [List.mem_filter, List.mem_range, bne_iff_ne]
      constructor
      · rintro ⟨h1, h2⟩; exact ⟨h1, h2, hrep j (by omega)⟩
      · rintro ⟨h1, h2, _⟩; exact ⟨h1, h2⟩) (by rw [hrep z (by have := hs.2.1; omega)]; rfl) (fun j h1 h2 => hrep j h2) (closed_none _ _) ((Ext.refl w).drew) (by simp) (fun p hp => by cases hp)
    (gap_of_list kk l1 _ [] a w.drew h1 h)
  have e : N + (l.toArray.size - N) = l.toArray.size := by omega
  rw [hlen, e] at g
  exact g
theorem wp_region_gapT' (z N : Nat) (zarr : Array Value) (T : TypeId) {id : Nat} {a : Act} {w : World} {l : List Oper} {oz oN : Oper} {zd : Nat} {y : Operand} (hm : Try.prog.follows .mixedOrders = true) (hB : gapOkT l.toArray z N = true)
    (h1 : ((List.range N).filter (fun i => i != z)).map (fun i => l.toArray[i]?) = ((l.take N).eraseIdx z).map some) (hlen : ((List.range N).filter (fun i => i != z)).length + 1 = N) (hsz : (Try.prog.info? T).map (·.size) = some zarr.size)
    (hz : l.toArray[z]? = some oz) (hN : l.toArray[N]? = some oN) (hgz : oz.guard = none) (hgN : oN.guard = none) (hmz : isMk oz.op = true) (hzd : oz.dst = some zd)
    (hop : oN.op = .store T (.tmp zd) y) (hdN : oN.dst = none)
    (hrun : ∀ (a : Act) (w : World), (execOp a.eval oz).run Try.prog w = .ok (.value (.pointer (some ⟨w.heap.size, 0, none⟩))) (w.alloc (.cells zarr T)))
    (h : wpGapL Try.prog l.toArray w (fun iv a w2 => ∀ W p, Ext w2 W → w.heap.size ≤ p → p < W.heap.size → (∀ q ∈ iv, p < q.1 ∨ q.2 ≤ p) → ∃ vs : List Value, (a.put (some zd) (.pointer (some ⟨p, 0, none⟩))).eval y = .agg vs.toArray ∧ vs.length = zarr.size ∧ (∀ v ∈ vs, v.oneCell' = true) ∧
      ((a.put (some zd) (.pointer (some ⟨p, 0, none⟩))).eval (.tmp zd) = .pointer (some ⟨p, 0, none⟩)) ∧
      ∀ W', Ext w W' → Chg [p] W W' → W'.heap[p]? = some (.cells vs.toArray T (0, 0)) → wpMixL Try.prog l.toArray (fun w' => ∃ t, w' = ext w t) (Qt Q) (l.drop (N + 1)) (a.put (some zd) (.pointer (some ⟨p, 0, none⟩))) W') ((l.take N).eraseIdx z) [] a w.drew) : (Code.region id l.toArray true).wp Try.prog Q a w :=
  wp_region_gapT z N zarr T hm hB hz hN hgz hgN hmz hzd hrun h1 hlen rfl hop hdN hsz h
end
end Go.Proofs.Ytnfodkhfoegnaaa

