/- Parcels are drawn, one in so many spoilt. -/
import Derived.Test.YtbbpipbemhggdaaDr
namespace Go.Proofs.Ytbbpipbemhggdaa
open Go.RowKit
set_option linter.unusedSimpArgs false
set_option linter.unusedVariables false

set_option maxRecDepth 100000 in
set_option maxHeartbeats 8000000 in
theorem l20AnyParcel_c (lo p Q : Nat) (m : Mp) (n : Int) (w : World) (h : Rdr lo p Q w) (hQ : Q ≤ 85000) (hm : MapIn m) (n1 : 1 ≤ n) (n2 : n ≤ 1000) :
    Calls Try.prog 86 #[.pointer (some ⟨p, 0, none⟩), .agg #[.int .i64 m.c, .int .i64 m.w], .int .i64 n] w fun e w' => ∃ x : Pcl, e = .returned (.agg #[.int .i64 x.n, .int .i64 x.kind, .int .i64 x.wk.id, .int .i64 x.wk.at_, .int .i64 x.wk.coins, .int .i64 x.wk.seq, .int .i64 x.wk.last, .int .i64 x.coins]) ∧ Rdr lo p (Q + 165) w' ∧ Chg [p] w w' := by
  have lP := h.lt
  have hlo := h.lo
  have HR := hid h
  have HM := hid hm
  clear h hm
  go_enter Try.func86, Try.ntmps86
  try go_wp2_with (first
      | (go_at_call 85; (with_reducible refine (l20Parcel_c lo p Q m _ (HR.out.of (by ((try simp only [ext_drew]); (try simp only [ext_ext]); repeat (first | exact Ext.refl _ | with_reducible apply Ext.add | with_reducible apply Ext.dr | apply Ext.alloc | apply Ext.ext | apply Ext.drew | refine Ext.trans ?_ (by assumption))))) (by omega) HM.out).mono ?_); rintro e w1 ⟨x, rfl, hR, hC⟩; have bR := hid (show w1.heap[w.heap.size + 1]? = some (oPcl ⟨0, 0, ⟨0, 0, 0, 0, 0⟩, 0⟩) from (hC.block _ (by (try simp [go_sem]) <;> (try simp [Xt.add]) <;> omega) (by simp; omega)).trans (by repeat (first | exact alloc_last (by (try simp [go_sem]) <;> (try simp [Xt.add]) <;> omega) | with_reducible refine blk_alloc ?_ | with_reducible refine blk_ext ?_ | with_reducible apply blk_drew))); have HR1 := hid hR; have HC1 := hid (show Chg [p] w w1 from Chg.trans (by repeat (first | with_reducible exact Chg.refl _ _ | with_reducible apply Chg.drew | with_reducible apply Chg.drewl | with_reducible refine Chg.turn (by simp) | with_reducible refine Chg.both ?_ (by simp) | (with_reducible refine Chg.set ?_ (by simp) _) | with_reducible apply Chg.alloc | with_reducible apply Chg.ext)) hC); clear hR hC)
      | (
        with_reducible refine wp_region_mix (by kernel_rfl) (by decide +kernel) ?_
        repeat (first
          | (refine mix_pure rfl ?_; (first | go_big_quiet_skip | (go_big_quiet_want; go_big_quiet_op; go_big_quiet_on)); refine wpQuiet_nil ?_)
          | (refine mix_skip (by rfl) ?_; (try simp only [Act.put, List.setIfInBounds_toArray, List.set_cons_zero, List.set_cons_succ]))
          | (refine mix_mk rfl (by rfl) (fun K hK => ?_); (first | (go_simp; first | (go_at_call 85; (with_reducible refine (l20Parcel_c lo p Q m _ (HR.out.of (by ((try simp only [ext_drew]); (try simp only [ext_ext]); repeat (first | exact Ext.refl _ | with_reducible apply Ext.add | with_reducible apply Ext.dr | apply Ext.alloc | apply Ext.ext | apply Ext.drew | refine Ext.trans ?_ (by assumption))))) (by omega) HM.out).mono ?_); rintro e w1 ⟨x, rfl, hR, hC⟩; have bR := hid (show w1.heap[w.heap.size + 1]? = some (oPcl ⟨0, 0, ⟨0, 0, 0, 0, 0⟩, 0⟩) from (hC.block _ (by (try simp [go_sem]) <;> (try simp [Xt.add]) <;> omega) (by simp; omega)).trans (by repeat (first | exact alloc_last (by (try simp [go_sem]) <;> (try simp [Xt.add]) <;> omega) | with_reducible refine blk_alloc ?_ | with_reducible refine blk_ext ?_ | with_reducible apply blk_drew))); have HR1 := hid hR; have HC1 := hid (show Chg [p] w w1 from Chg.trans (by repeat (first | with_reducible exact Chg.refl _ _ | with_reducible apply Chg.drew | with_reducible apply Chg.drewl | with_reducible refine Chg.turn (by simp) | with_reducible refine Chg.both ?_ (by simp) | (with_reducible refine Chg.set ?_ (by simp) _) | with_reducible apply Chg.alloc | with_reducible apply Chg.ext)) hC); clear hR hC) | skip)); (show K _ _); refine hK _ _ (show Ext _ _ from (by ((try simp only [ext_drew]); (try simp only [ext_ext]); repeat (first | exact Ext.refl _ | with_reducible apply Ext.add | with_reducible apply Ext.dr | apply Ext.alloc | apply Ext.ext | apply Ext.drew | refine Ext.trans ?_ (by assumption))))) ?_; clear hK K; (try simp only [Act.put, List.setIfInBounds_toArray, List.set_cons_zero, List.set_cons_succ])))
        refine mix_nil ?_)
      | (
        with_reducible refine wp_region_ext (by kernel_rfl) (by kernel_rfl) ?_
        repeat (first | go_big_quiet_skip | (go_big_quiet_want; go_big_quiet_op; first | go_big_quiet_on | (apply Exists.intro; refine ⟨fun _ => ?_, ?_⟩; (fail); (try rw [h1]); (try rw [h2]); (try rw [h3]); (try rw [h4]); (try rw [p1]); (try rw [p2]); (try rw [p3]); (try rw [p4]); (try rw [r1]); (try rw [r2]); (try rw [r3]); (try rw [r4]); (try rw [r5]); (try rw [r6]); (try rw [q3]); (try rw [q4]); (try rw [hp]); (try rw [hq]); go_big_quiet_on)))
        refine wpQuiet_nil ?_
        rintro _ ⟨tq, rfl⟩))
  refine calls_gen fun X hX => ?_
  obtain ⟨R, hR⟩ : ∃ R, w.heap.size + 1 = R := ⟨_, rfl⟩
  obtain ⟨S, hS⟩ : ∃ S, w1.heap.size = S := ⟨_, rfl⟩
  have lR1 := lt_blk bR.out
  have EX : Ext w1 X := by rw [hX]; ((try simp only [ext_drew]); (try simp only [ext_ext]); repeat (first | exact Ext.refl _ | with_reducible apply Ext.add | with_reducible apply Ext.dr | apply Ext.alloc | apply Ext.ext | apply Ext.drew | refine Ext.trans ?_ (by assumption)))
  have bs : X.heap[S]? = some (oPcl x) := by rw [hX, ← hS]; exact (by repeat (first | exact alloc_last (by (try simp [go_sem]) <;> (try simp [Xt.add]) <;> omega) | with_reducible refine blk_alloc ?_ | with_reducible refine blk_ext ?_ | with_reducible apply blk_drew))
  have br := (EX.block lR1).trans bR.out
  have lp1 := HR1.out.lt
  rw [hR, hS]
  rw [hR] at br lR1
  have hSR : S ≠ R := by omega
  have hRS : R ≠ S := by omega
  have hSp : S ≠ p := by omega
  have hRp : R ≠ p := by omega
  have hwR : w.heap.size ≤ R := by omega
  have hwS : w.heap.size ≤ S := by omega
  have HRX := hid (HR1.out.of EX)
  have HCX := hid (HC1.out.trans (Chg.of_ext EX [p]))
  clear hX EX hS hR HR HR1 HC1 lR1 lp1 bR
  refine (pick_c lo p (Q + 160) n X HRX.out (by omega) (by omega) (by omega)).mono ?_
  rintro e Z ⟨v, rfl, hv0, hv1, hRZ, hCZ⟩
  have bsZ := (hCZ.block S (lt_blk bs) (by simpa using hSp)).trans bs
  have brZ := (hCZ.block R (lt_blk br) (by simpa using hRp)).trans br
  have HRZ := hid hRZ
  have HCZ := hid (HCX.out.trans hCZ)
  clear bs br hRZ hCZ HRX HCX
  by_cases hv : 0 < v
  · have g : (0 < v) := hv
    have cs0 : Z.cell? ⟨S, 0, none⟩ = some (.int .i64 x.n) := (cell_blk bsZ 0).trans rfl
    have cs1 : Z.cell? ⟨S, 1, none⟩ = some (.int .i64 x.kind) := (cell_blk bsZ 1).trans rfl
    have cs2 : Z.cell? ⟨S, 2, none⟩ = some (.int .i64 x.wk.id) := (cell_blk bsZ 2).trans rfl
    have cs3 : Z.cell? ⟨S, 3, none⟩ = some (.int .i64 x.wk.at_) := (cell_blk bsZ 3).trans rfl
    have cs4 : Z.cell? ⟨S, 4, none⟩ = some (.int .i64 x.wk.coins) := (cell_blk bsZ 4).trans rfl
    have cs5 : Z.cell? ⟨S, 5, none⟩ = some (.int .i64 x.wk.seq) := (cell_blk bsZ 5).trans rfl
    have cs6 : Z.cell? ⟨S, 6, none⟩ = some (.int .i64 x.wk.last) := (cell_blk bsZ 6).trans rfl
    have cs7 : Z.cell? ⟨S, 7, none⟩ = some (.int .i64 x.coins) := (cell_blk bsZ 7).trans rfl
    have zcs0 := frozen_blk bsZ 0
    have zcs1 := frozen_blk bsZ 1
    have zcs2 := frozen_blk bsZ 2
    have zcs3 := frozen_blk bsZ 3
    have zcs4 := frozen_blk bsZ 4
    have zcs5 := frozen_blk bsZ 5
    have zcs6 := frozen_blk bsZ 6
    have zcs7 := frozen_blk bsZ 7
    have cr0 : Z.cell? ⟨R, 0, none⟩ = some (.int .i64 0) := (cell_blk brZ 0).trans rfl
    have cr1 : Z.cell? ⟨R, 1, none⟩ = some (.int .i64 0) := (cell_blk brZ 1).trans rfl
    have cr2 : Z.cell? ⟨R, 2, none⟩ = some (.int .i64 0) := (cell_blk brZ 2).trans rfl
    have cr3 : Z.cell? ⟨R, 3, none⟩ = some (.int .i64 0) := (cell_blk brZ 3).trans rfl
    have cr4 : Z.cell? ⟨R, 4, none⟩ = some (.int .i64 0) := (cell_blk brZ 4).trans rfl
    have cr5 : Z.cell? ⟨R, 5, none⟩ = some (.int .i64 0) := (cell_blk brZ 5).trans rfl
    have cr6 : Z.cell? ⟨R, 6, none⟩ = some (.int .i64 0) := (cell_blk brZ 6).trans rfl
    have cr7 : Z.cell? ⟨R, 7, none⟩ = some (.int .i64 0) := (cell_blk brZ 7).trans rfl
    have zcr0 := frozen_blk brZ 0
    have zcr1 := frozen_blk brZ 1
    have zcr2 := frozen_blk brZ 2
    have zcr3 := frozen_blk brZ 3
    have zcr4 := frozen_blk brZ 4
    have zcr5 := frozen_blk brZ 5
    have zcr6 := frozen_blk brZ 6
    have zcr7 := frozen_blk brZ 7
    have ls := lt_blk bsZ
    have lr := lt_blk brZ
    clear bsZ brZ
    try go_wp2_with (first
        | fail
        | (
          with_reducible refine wp_region_mix (by kernel_rfl) (by decide +kernel) ?_
          repeat (first
            | (refine mix_pure rfl ?_; (first | go_big_quiet_skip | (go_big_quiet_want; go_big_quiet_op; go_big_quiet_on)); refine wpQuiet_nil ?_)
            | (refine mix_skip (by rfl) ?_; (try simp only [Act.put, List.setIfInBounds_toArray, List.set_cons_zero, List.set_cons_succ]))
            | (refine mix_mk rfl (by rfl) (fun K hK => ?_); (first | (go_simp; first | skip)); (show K _ _); refine hK _ _ (show Ext _ _ from (by ((try simp only [ext_drew]); (try simp only [ext_ext]); repeat (first | exact Ext.refl _ | with_reducible apply Ext.add | with_reducible apply Ext.dr | apply Ext.alloc | apply Ext.ext | apply Ext.drew | refine Ext.trans ?_ (by assumption))))) ?_; clear hK K; (try simp only [Act.put, List.setIfInBounds_toArray, List.set_cons_zero, List.set_cons_succ])))
          refine mix_nil ?_)
        | (
          with_reducible refine wp_region_ext (by kernel_rfl) (by kernel_rfl) ?_
          repeat (first | go_big_quiet_skip | (go_big_quiet_want; go_big_quiet_op; first | go_big_quiet_on | (apply Exists.intro; refine ⟨fun _ => ?_, ?_⟩; (fail); (try rw [h1]); (try rw [h2]); (try rw [h3]); (try rw [h4]); (try rw [p1]); (try rw [p2]); (try rw [p3]); (try rw [p4]); (try rw [r1]); (try rw [r2]); (try rw [r3]); (try rw [r4]); (try rw [r5]); (try rw [r6]); (try rw [q3]); (try rw [q4]); (try rw [hp]); (try rw [hq]); go_big_quiet_on)))
          refine wpQuiet_nil ?_
          rintro _ ⟨tq, rfl⟩))
    refine bodyPost_ret (v := .agg #[.int .i64 x.n, .int .i64 x.kind, .int .i64 x.wk.id, .int .i64 x.wk.at_, .int .i64 x.wk.coins, .int .i64 x.wk.seq, .int .i64 x.wk.last, .int .i64 x.coins]) (by simp [results, Try.results86, go_sem, cs0, cs1, cs2, cs3, cs4, cs5, cs6, cs7, cr0, cr1, cr2, cr3, cr4, cr5, cr6, cr7, ls, lr, hSR, hRS]) rfl ?_
    exact ⟨x, rfl, (HRZ.out.chg (B := [R]) (by repeat (first | with_reducible exact Chg.refl _ _ | with_reducible apply Chg.drew | (with_reducible refine Chg.extR ?_ (by simp)) | (with_reducible refine Chg.set ?_ (by simp) _) | with_reducible apply Chg.alloc | with_reducible apply Chg.ext | with_reducible refine Chg.trans ?_ (Hid.out (by assumption)))) (by simp; omega) (Nat.le_refl _)).up (by omega), Chg.fin (B := [R]) ((HCZ.out.mono (B' := [p, R]) (by simp)).trans (by repeat (first | with_reducible exact Chg.refl _ _ | with_reducible apply Chg.drew | (with_reducible refine Chg.extR ?_ (by simp)) | (with_reducible refine Chg.set ?_ (by simp) _) | with_reducible apply Chg.alloc | with_reducible apply Chg.ext | with_reducible refine Chg.trans ?_ (Hid.out (by assumption))))) (by simp; omega)⟩
  · obtain rfl : v = 0 := by omega
    clear hv hv0 hv1
    have HS0 := hid bsZ
    have HR0 := hid brZ
    have HRY := HRZ
    have HCY := HCZ
    clear bsZ brZ HRZ HCZ
    try go_wp2_with (first
        | fail
        | (
          with_reducible refine wp_region_mix (by kernel_rfl) (by decide +kernel) ?_
          repeat (first
            | (refine mix_pure rfl ?_; (first | go_big_quiet_skip | (go_big_quiet_want; go_big_quiet_op; go_big_quiet_on)); refine wpQuiet_nil ?_)
            | (refine mix_skip (by rfl) ?_; (try simp only [Act.put, List.setIfInBounds_toArray, List.set_cons_zero, List.set_cons_succ]))
            | (refine mix_mk rfl (by rfl) (fun K hK => ?_); (first | (go_simp; first | skip)); (show K _ _); refine hK _ _ (show Ext _ _ from (by ((try simp only [ext_drew]); (try simp only [ext_ext]); repeat (first | exact Ext.refl _ | with_reducible apply Ext.add | with_reducible apply Ext.dr | apply Ext.alloc | apply Ext.ext | apply Ext.drew | refine Ext.trans ?_ (by assumption))))) ?_; clear hK K; (try simp only [Act.put, List.setIfInBounds_toArray, List.set_cons_zero, List.set_cons_succ])))
          refine mix_nil ?_)
        | (
          with_reducible refine wp_region_ext (by kernel_rfl) (by kernel_rfl) ?_
          repeat (first | go_big_quiet_skip | (go_big_quiet_want; go_big_quiet_op; first | go_big_quiet_on | (apply Exists.intro; refine ⟨fun _ => ?_, ?_⟩; (fail); (try rw [h1]); (try rw [h2]); (try rw [h3]); (try rw [h4]); (try rw [p1]); (try rw [p2]); (try rw [p3]); (try rw [p4]); (try rw [r1]); (try rw [r2]); (try rw [r3]); (try rw [r4]); (try rw [r5]); (try rw [r6]); (try rw [q3]); (try rw [q4]); (try rw [hp]); (try rw [hq]); go_big_quiet_on)))
          refine wpQuiet_nil ?_
          rintro _ ⟨tq, rfl⟩))
    refine calls_gen fun X hX => ?_
    have EX : Ext Z X := by rw [hX]; ((try simp only [ext_drew]); (try simp only [ext_ext]); repeat (first | exact Ext.refl _ | with_reducible apply Ext.add | with_reducible apply Ext.dr | apply Ext.alloc | apply Ext.ext | apply Ext.drew | refine Ext.trans ?_ (by assumption)))
    have bs := (EX.block (lt_blk HS0.out)).trans HS0.out
    have br := (EX.block (lt_blk HR0.out)).trans HR0.out
    have HRX := hid (HRY.out.of EX)
    have HCX := hid (HCY.out.trans (Chg.of_ext EX [p]))
    clear hX EX HS0 HR0 HRY HCY
    refine (pick_c lo p (Q + 161) 4 X HRX.out (by omega) (by omega) (by omega)).mono ?_
    rintro e Z ⟨v, rfl, hv0, hv1, hRZ, hCZ⟩
    have bsZ := (hCZ.block S (lt_blk bs) (by simpa using hSp)).trans bs
    have brZ := (hCZ.block R (lt_blk br) (by simpa using hRp)).trans br
    have HRZ := hid hRZ
    have HCZ := hid (HCX.out.trans hCZ)
    have HBS := hid bsZ
    have HBR := hid brZ
    have cs0 : Z.cell? ⟨S, 0, none⟩ = some (.int .i64 x.n) := (cell_blk bsZ 0).trans rfl
    have cs1 : Z.cell? ⟨S, 1, none⟩ = some (.int .i64 x.kind) := (cell_blk bsZ 1).trans rfl
    have cs2 : Z.cell? ⟨S, 2, none⟩ = some (.int .i64 x.wk.id) := (cell_blk bsZ 2).trans rfl
    have cs3 : Z.cell? ⟨S, 3, none⟩ = some (.int .i64 x.wk.at_) := (cell_blk bsZ 3).trans rfl
    have cs4 : Z.cell? ⟨S, 4, none⟩ = some (.int .i64 x.wk.coins) := (cell_blk bsZ 4).trans rfl
    have cs5 : Z.cell? ⟨S, 5, none⟩ = some (.int .i64 x.wk.seq) := (cell_blk bsZ 5).trans rfl
    have cs6 : Z.cell? ⟨S, 6, none⟩ = some (.int .i64 x.wk.last) := (cell_blk bsZ 6).trans rfl
    have cs7 : Z.cell? ⟨S, 7, none⟩ = some (.int .i64 x.coins) := (cell_blk bsZ 7).trans rfl
    have zcs0 := frozen_blk bsZ 0
    have zcs1 := frozen_blk bsZ 1
    have zcs2 := frozen_blk bsZ 2
    have zcs3 := frozen_blk bsZ 3
    have zcs4 := frozen_blk bsZ 4
    have zcs5 := frozen_blk bsZ 5
    have zcs6 := frozen_blk bsZ 6
    have zcs7 := frozen_blk bsZ 7
    have cr0 : Z.cell? ⟨R, 0, none⟩ = some (.int .i64 0) := (cell_blk brZ 0).trans rfl
    have cr1 : Z.cell? ⟨R, 1, none⟩ = some (.int .i64 0) := (cell_blk brZ 1).trans rfl
    have cr2 : Z.cell? ⟨R, 2, none⟩ = some (.int .i64 0) := (cell_blk brZ 2).trans rfl
    have cr3 : Z.cell? ⟨R, 3, none⟩ = some (.int .i64 0) := (cell_blk brZ 3).trans rfl
    have cr4 : Z.cell? ⟨R, 4, none⟩ = some (.int .i64 0) := (cell_blk brZ 4).trans rfl
    have cr5 : Z.cell? ⟨R, 5, none⟩ = some (.int .i64 0) := (cell_blk brZ 5).trans rfl
    have cr6 : Z.cell? ⟨R, 6, none⟩ = some (.int .i64 0) := (cell_blk brZ 6).trans rfl
    have cr7 : Z.cell? ⟨R, 7, none⟩ = some (.int .i64 0) := (cell_blk brZ 7).trans rfl
    have zcr0 := frozen_blk brZ 0
    have zcr1 := frozen_blk brZ 1
    have zcr2 := frozen_blk brZ 2
    have zcr3 := frozen_blk brZ 3
    have zcr4 := frozen_blk brZ 4
    have zcr5 := frozen_blk brZ 5
    have zcr6 := frozen_blk brZ 6
    have zcr7 := frozen_blk brZ 7
    have ls := lt_blk bsZ
    have lr := lt_blk brZ
    clear bs br hRZ hCZ HRX HCX bsZ brZ
    have hv5 : v = 0 ∨ v = 1 ∨ v = 2 ∨ v = 3 := by omega
    clear hv0 hv1
    rcases hv5 with rfl | rfl | rfl | rfl
    ·
      try go_wp2_with (first
          | fail
          | (
            with_reducible refine wp_region_mix (by kernel_rfl) (by decide +kernel) ?_
            repeat (first
              | (refine mix_pure rfl ?_; (first | go_big_quiet_skip | (go_big_quiet_want; go_big_quiet_op; go_big_quiet_on)); refine wpQuiet_nil ?_)
              | (refine mix_skip (by rfl) ?_; (try simp only [Act.put, List.setIfInBounds_toArray, List.set_cons_zero, List.set_cons_succ]))
              | (refine mix_mk rfl (by rfl) (fun K hK => ?_); (first | (go_simp; first | skip)); (show K _ _); refine hK _ _ (show Ext _ _ from (by ((try simp only [ext_drew]); (try simp only [ext_ext]); repeat (first | exact Ext.refl _ | with_reducible apply Ext.add | with_reducible apply Ext.dr | apply Ext.alloc | apply Ext.ext | apply Ext.drew | refine Ext.trans ?_ (by assumption))))) ?_; clear hK K; (try simp only [Act.put, List.setIfInBounds_toArray, List.set_cons_zero, List.set_cons_succ])))
            refine mix_nil ?_)
          | (
            with_reducible refine wp_region_ext (by kernel_rfl) (by kernel_rfl) ?_
            repeat (first | go_big_quiet_skip | (go_big_quiet_want; go_big_quiet_op; first | go_big_quiet_on | (apply Exists.intro; refine ⟨fun _ => ?_, ?_⟩; (fail); (try rw [h1]); (try rw [h2]); (try rw [h3]); (try rw [h4]); (try rw [p1]); (try rw [p2]); (try rw [p3]); (try rw [p4]); (try rw [r1]); (try rw [r2]); (try rw [r3]); (try rw [r4]); (try rw [r5]); (try rw [r6]); (try rw [q3]); (try rw [q4]); (try rw [hp]); (try rw [hq]); go_big_quiet_on)))
            refine wpQuiet_nil ?_
            rintro _ ⟨tq, rfl⟩))
      refine calls_gen fun X hX => ?_
      obtain ⟨A, hA⟩ : ∃ A, Z.heap.size = A := ⟨_, rfl⟩
      have EX : Ext Z X := by rw [hX]; ((try simp only [ext_drew]); (try simp only [ext_ext]); repeat (first | exact Ext.refl _ | with_reducible apply Ext.add | with_reducible apply Ext.dr | apply Ext.alloc | apply Ext.ext | apply Ext.drew | refine Ext.trans ?_ (by assumption)))
      have ba : X.heap[A]? = some (.cells #[.int .i64 (-1), .int .i64 5000] 3 (0, 0)) := by rw [hX, ← hA]; exact (by repeat (first | exact alloc_last (by (try simp [go_sem]) <;> (try simp [Xt.add]) <;> omega) | with_reducible refine blk_alloc ?_ | with_reducible refine blk_ext ?_ | with_reducible apply blk_drew))
      have bs := (EX.block (lt_blk HBS.out)).trans HBS.out
      have br := (EX.block (lt_blk HBR.out)).trans HBR.out
      have HRX := hid (HRZ.out.of EX)
      have HCX := hid (HCZ.out.trans (Chg.of_ext EX [p]))
      rw [hA]
      have lpZ := HRZ.out.lt
      have hAp : A ≠ p := by omega
      clear hX EX hA HBS HBR HRZ HCZ cs0 cs1 cs2 cs3 cs4 cs5 cs6 cs7 zcs0 zcs1 zcs2 zcs3 zcs4 zcs5 zcs6 zcs7 cr0 cr1 cr2 cr3 cr4 cr5 cr6 cr7 zcr0 zcr1 zcr2 zcr3 zcr4 zcr5 zcr6 zcr7 ls lr
      refine (pick_c lo p _ 2 X HRX.out (by omega) (by omega) (by omega)).mono ?_
      rintro e V ⟨v, rfl, hv0', hv1', hRV, hCV⟩
      obtain ⟨i, rfl⟩ : ∃ i : Nat, v = (i : Int) := ⟨v.toNat, by omega⟩
      have bsV := (hCV.block S (lt_blk bs) (by simpa using hSp)).trans bs
      have brV := (hCV.block R (lt_blk br) (by simpa using hRp)).trans br
      have baV := (hCV.block A (lt_blk ba) (by simpa using hAp)).trans ba
      obtain ⟨y, hyx, hyc⟩ := arr_at (xs := [-1, 5000]) (i := i) baV (by simp; omega)
      have HRV := hid hRV
      have HCV := hid (HCX.out.trans hCV)
      have la := lt_blk baV
      have za := frozen_blk baV i
      have hin : (i : Int) < 2 := by omega
      clear ba bs br baV hRV hCV HRX HCX hyx
      have cs0 : V.cell? ⟨S, 0, none⟩ = some (.int .i64 x.n) := (cell_blk bsV 0).trans rfl
      have cs1 : V.cell? ⟨S, 1, none⟩ = some (.int .i64 x.kind) := (cell_blk bsV 1).trans rfl
      have cs2 : V.cell? ⟨S, 2, none⟩ = some (.int .i64 x.wk.id) := (cell_blk bsV 2).trans rfl
      have cs3 : V.cell? ⟨S, 3, none⟩ = some (.int .i64 x.wk.at_) := (cell_blk bsV 3).trans rfl
      have cs4 : V.cell? ⟨S, 4, none⟩ = some (.int .i64 x.wk.coins) := (cell_blk bsV 4).trans rfl
      have cs5 : V.cell? ⟨S, 5, none⟩ = some (.int .i64 x.wk.seq) := (cell_blk bsV 5).trans rfl
      have cs6 : V.cell? ⟨S, 6, none⟩ = some (.int .i64 x.wk.last) := (cell_blk bsV 6).trans rfl
      have cs7 : V.cell? ⟨S, 7, none⟩ = some (.int .i64 x.coins) := (cell_blk bsV 7).trans rfl
      have zcs0 := frozen_blk bsV 0
      have zcs1 := frozen_blk bsV 1
      have zcs2 := frozen_blk bsV 2
      have zcs3 := frozen_blk bsV 3
      have zcs4 := frozen_blk bsV 4
      have zcs5 := frozen_blk bsV 5
      have zcs6 := frozen_blk bsV 6
      have zcs7 := frozen_blk bsV 7
      have cr0 : V.cell? ⟨R, 0, none⟩ = some (.int .i64 0) := (cell_blk brV 0).trans rfl
      have cr1 : V.cell? ⟨R, 1, none⟩ = some (.int .i64 0) := (cell_blk brV 1).trans rfl
      have cr2 : V.cell? ⟨R, 2, none⟩ = some (.int .i64 0) := (cell_blk brV 2).trans rfl
      have cr3 : V.cell? ⟨R, 3, none⟩ = some (.int .i64 0) := (cell_blk brV 3).trans rfl
      have cr4 : V.cell? ⟨R, 4, none⟩ = some (.int .i64 0) := (cell_blk brV 4).trans rfl
      have cr5 : V.cell? ⟨R, 5, none⟩ = some (.int .i64 0) := (cell_blk brV 5).trans rfl
      have cr6 : V.cell? ⟨R, 6, none⟩ = some (.int .i64 0) := (cell_blk brV 6).trans rfl
      have cr7 : V.cell? ⟨R, 7, none⟩ = some (.int .i64 0) := (cell_blk brV 7).trans rfl
      have zcr0 := frozen_blk brV 0
      have zcr1 := frozen_blk brV 1
      have zcr2 := frozen_blk brV 2
      have zcr3 := frozen_blk brV 3
      have zcr4 := frozen_blk brV 4
      have zcr5 := frozen_blk brV 5
      have zcr6 := frozen_blk brV 6
      have zcr7 := frozen_blk brV 7
      have ls := lt_blk bsV
      have lr := lt_blk brV
      clear bsV brV
      try go_wp2_with (first
          | fail
          | (
            with_reducible refine wp_region_mix (by kernel_rfl) (by decide +kernel) ?_
            repeat (first
              | (refine mix_pure rfl ?_; (first | go_big_quiet_skip | (go_big_quiet_want; go_big_quiet_op; go_big_quiet_on)); refine wpQuiet_nil ?_)
              | (refine mix_skip (by rfl) ?_; (try simp only [Act.put, List.setIfInBounds_toArray, List.set_cons_zero, List.set_cons_succ]))
              | (refine mix_mk rfl (by rfl) (fun K hK => ?_); (first | (go_simp; first | skip)); (show K _ _); refine hK _ _ (show Ext _ _ from (by ((try simp only [ext_drew]); (try simp only [ext_ext]); repeat (first | exact Ext.refl _ | with_reducible apply Ext.add | with_reducible apply Ext.dr | apply Ext.alloc | apply Ext.ext | apply Ext.drew | refine Ext.trans ?_ (by assumption))))) ?_; clear hK K; (try simp only [Act.put, List.setIfInBounds_toArray, List.set_cons_zero, List.set_cons_succ])))
            refine mix_nil ?_)
          | (
            with_reducible refine wp_region_ext (by kernel_rfl) (by kernel_rfl) ?_
            repeat (first | go_big_quiet_skip | (go_big_quiet_want; go_big_quiet_op; first | go_big_quiet_on | (apply Exists.intro; refine ⟨fun _ => ?_, ?_⟩; (fail); (try rw [h1]); (try rw [h2]); (try rw [h3]); (try rw [h4]); (try rw [p1]); (try rw [p2]); (try rw [p3]); (try rw [p4]); (try rw [r1]); (try rw [r2]); (try rw [r3]); (try rw [r4]); (try rw [r5]); (try rw [r6]); (try rw [q3]); (try rw [q4]); (try rw [hp]); (try rw [hq]); go_big_quiet_on)))
            refine wpQuiet_nil ?_
            rintro _ ⟨tq, rfl⟩))
      refine bodyPost_ret (v := .agg #[.int .i64 (({ x with n := y })).n, .int .i64 (({ x with n := y })).kind, .int .i64 (({ x with n := y })).wk.id, .int .i64 (({ x with n := y })).wk.at_, .int .i64 (({ x with n := y })).wk.coins, .int .i64 (({ x with n := y })).wk.seq, .int .i64 (({ x with n := y })).wk.last, .int .i64 (({ x with n := y })).coins]) (by simp [results, Try.results86, go_sem, cs0, cs1, cs2, cs3, cs4, cs5, cs6, cs7, cr0, cr1, cr2, cr3, cr4, cr5, cr6, cr7, ls, lr, hSR, hRS]) rfl ?_
      exact ⟨{ x with n := y }, rfl, (HRV.out.chg (B := [S, R]) (by repeat (first | with_reducible exact Chg.refl _ _ | with_reducible apply Chg.drew | (with_reducible refine Chg.extR ?_ (by simp)) | (with_reducible refine Chg.set ?_ (by simp) _) | with_reducible apply Chg.alloc | with_reducible apply Chg.ext | with_reducible refine Chg.trans ?_ (Hid.out (by assumption)))) (by simp; omega) (Nat.le_refl _)).up (by omega), Chg.fin (B := [S, R]) ((HCV.out.mono (B' := [p, S, R]) (by simp)).trans (by repeat (first | with_reducible exact Chg.refl _ _ | with_reducible apply Chg.drew | (with_reducible refine Chg.extR ?_ (by simp)) | (with_reducible refine Chg.set ?_ (by simp) _) | with_reducible apply Chg.alloc | with_reducible apply Chg.ext | with_reducible refine Chg.trans ?_ (Hid.out (by assumption))))) (by simp; omega)⟩
    ·
      try go_wp2_with (first
          | fail
          | (
            with_reducible refine wp_region_mix (by kernel_rfl) (by decide +kernel) ?_
            repeat (first
              | (refine mix_pure rfl ?_; (first | go_big_quiet_skip | (go_big_quiet_want; go_big_quiet_op; go_big_quiet_on)); refine wpQuiet_nil ?_)
              | (refine mix_skip (by rfl) ?_; (try simp only [Act.put, List.setIfInBounds_toArray, List.set_cons_zero, List.set_cons_succ]))
              | (refine mix_mk rfl (by rfl) (fun K hK => ?_); (first | (go_simp; first | skip)); (show K _ _); refine hK _ _ (show Ext _ _ from (by ((try simp only [ext_drew]); (try simp only [ext_ext]); repeat (first | exact Ext.refl _ | with_reducible apply Ext.add | with_reducible apply Ext.dr | apply Ext.alloc | apply Ext.ext | apply Ext.drew | refine Ext.trans ?_ (by assumption))))) ?_; clear hK K; (try simp only [Act.put, List.setIfInBounds_toArray, List.set_cons_zero, List.set_cons_succ])))
            refine mix_nil ?_)
          | (
            with_reducible refine wp_region_ext (by kernel_rfl) (by kernel_rfl) ?_
            repeat (first | go_big_quiet_skip | (go_big_quiet_want; go_big_quiet_op; first | go_big_quiet_on | (apply Exists.intro; refine ⟨fun _ => ?_, ?_⟩; (fail); (try rw [h1]); (try rw [h2]); (try rw [h3]); (try rw [h4]); (try rw [p1]); (try rw [p2]); (try rw [p3]); (try rw [p4]); (try rw [r1]); (try rw [r2]); (try rw [r3]); (try rw [r4]); (try rw [r5]); (try rw [r6]); (try rw [q3]); (try rw [q4]); (try rw [hp]); (try rw [hq]); go_big_quiet_on)))
            refine wpQuiet_nil ?_
            rintro _ ⟨tq, rfl⟩))
      refine calls_gen fun X hX => ?_
      obtain ⟨A, hA⟩ : ∃ A, Z.heap.size = A := ⟨_, rfl⟩
      have EX : Ext Z X := by rw [hX]; ((try simp only [ext_drew]); (try simp only [ext_ext]); repeat (first | exact Ext.refl _ | with_reducible apply Ext.add | with_reducible apply Ext.dr | apply Ext.alloc | apply Ext.ext | apply Ext.drew | refine Ext.trans ?_ (by assumption)))
      have ba : X.heap[A]? = some (.cells #[.int .i64 0, .int .i64 3, .int .i64 1, .int .i64 2] 3 (0, 0)) := by rw [hX, ← hA]; exact (by repeat (first | exact alloc_last (by (try simp [go_sem]) <;> (try simp [Xt.add]) <;> omega) | with_reducible refine blk_alloc ?_ | with_reducible refine blk_ext ?_ | with_reducible apply blk_drew))
      have bs := (EX.block (lt_blk HBS.out)).trans HBS.out
      have br := (EX.block (lt_blk HBR.out)).trans HBR.out
      have HRX := hid (HRZ.out.of EX)
      have HCX := hid (HCZ.out.trans (Chg.of_ext EX [p]))
      rw [hA]
      have lpZ := HRZ.out.lt
      have hAp : A ≠ p := by omega
      clear hX EX hA HBS HBR HRZ HCZ cs0 cs1 cs2 cs3 cs4 cs5 cs6 cs7 zcs0 zcs1 zcs2 zcs3 zcs4 zcs5 zcs6 zcs7 cr0 cr1 cr2 cr3 cr4 cr5 cr6 cr7 zcr0 zcr1 zcr2 zcr3 zcr4 zcr5 zcr6 zcr7 ls lr
      refine (pick_c lo p _ 4 X HRX.out (by omega) (by omega) (by omega)).mono ?_
      rintro e V ⟨v, rfl, hv0', hv1', hRV, hCV⟩
      obtain ⟨i, rfl⟩ : ∃ i : Nat, v = (i : Int) := ⟨v.toNat, by omega⟩
      have bsV := (hCV.block S (lt_blk bs) (by simpa using hSp)).trans bs
      have brV := (hCV.block R (lt_blk br) (by simpa using hRp)).trans br
      have baV := (hCV.block A (lt_blk ba) (by simpa using hAp)).trans ba
      obtain ⟨y, hyx, hyc⟩ := arr_at (xs := [0, 3, 1, 2]) (i := i) baV (by simp; omega)
      have HRV := hid hRV
      have HCV := hid (HCX.out.trans hCV)
      have la := lt_blk baV
      have za := frozen_blk baV i
      have hin : (i : Int) < 4 := by omega
      clear ba bs br baV hRV hCV HRX HCX hyx
      have cs0 : V.cell? ⟨S, 0, none⟩ = some (.int .i64 x.n) := (cell_blk bsV 0).trans rfl
      have cs1 : V.cell? ⟨S, 1, none⟩ = some (.int .i64 x.kind) := (cell_blk bsV 1).trans rfl
      have cs2 : V.cell? ⟨S, 2, none⟩ = some (.int .i64 x.wk.id) := (cell_blk bsV 2).trans rfl
      have cs3 : V.cell? ⟨S, 3, none⟩ = some (.int .i64 x.wk.at_) := (cell_blk bsV 3).trans rfl
      have cs4 : V.cell? ⟨S, 4, none⟩ = some (.int .i64 x.wk.coins) := (cell_blk bsV 4).trans rfl
      have cs5 : V.cell? ⟨S, 5, none⟩ = some (.int .i64 x.wk.seq) := (cell_blk bsV 5).trans rfl
      have cs6 : V.cell? ⟨S, 6, none⟩ = some (.int .i64 x.wk.last) := (cell_blk bsV 6).trans rfl
      have cs7 : V.cell? ⟨S, 7, none⟩ = some (.int .i64 x.coins) := (cell_blk bsV 7).trans rfl
      have zcs0 := frozen_blk bsV 0
      have zcs1 := frozen_blk bsV 1
      have zcs2 := frozen_blk bsV 2
      have zcs3 := frozen_blk bsV 3
      have zcs4 := frozen_blk bsV 4
      have zcs5 := frozen_blk bsV 5
      have zcs6 := frozen_blk bsV 6
      have zcs7 := frozen_blk bsV 7
      have cr0 : V.cell? ⟨R, 0, none⟩ = some (.int .i64 0) := (cell_blk brV 0).trans rfl
      have cr1 : V.cell? ⟨R, 1, none⟩ = some (.int .i64 0) := (cell_blk brV 1).trans rfl
      have cr2 : V.cell? ⟨R, 2, none⟩ = some (.int .i64 0) := (cell_blk brV 2).trans rfl
      have cr3 : V.cell? ⟨R, 3, none⟩ = some (.int .i64 0) := (cell_blk brV 3).trans rfl
      have cr4 : V.cell? ⟨R, 4, none⟩ = some (.int .i64 0) := (cell_blk brV 4).trans rfl
      have cr5 : V.cell? ⟨R, 5, none⟩ = some (.int .i64 0) := (cell_blk brV 5).trans rfl
      have cr6 : V.cell? ⟨R, 6, none⟩ = some (.int .i64 0) := (cell_blk brV 6).trans rfl
      have cr7 : V.cell? ⟨R, 7, none⟩ = some (.int .i64 0) := (cell_blk brV 7).trans rfl
      have zcr0 := frozen_blk brV 0
      have zcr1 := frozen_blk brV 1
      have zcr2 := frozen_blk brV 2
      have zcr3 := frozen_blk brV 3
      have zcr4 := frozen_blk brV 4
      have zcr5 := frozen_blk brV 5
      have zcr6 := frozen_blk brV 6
      have zcr7 := frozen_blk brV 7
      have ls := lt_blk bsV
      have lr := lt_blk brV
      clear bsV brV
      try go_wp2_with (first
          | fail
          | (
            with_reducible refine wp_region_mix (by kernel_rfl) (by decide +kernel) ?_
            repeat (first
              | (refine mix_pure rfl ?_; (first | go_big_quiet_skip | (go_big_quiet_want; go_big_quiet_op; go_big_quiet_on)); refine wpQuiet_nil ?_)
              | (refine mix_skip (by rfl) ?_; (try simp only [Act.put, List.setIfInBounds_toArray, List.set_cons_zero, List.set_cons_succ]))
              | (refine mix_mk rfl (by rfl) (fun K hK => ?_); (first | (go_simp; first | skip)); (show K _ _); refine hK _ _ (show Ext _ _ from (by ((try simp only [ext_drew]); (try simp only [ext_ext]); repeat (first | exact Ext.refl _ | with_reducible apply Ext.add | with_reducible apply Ext.dr | apply Ext.alloc | apply Ext.ext | apply Ext.drew | refine Ext.trans ?_ (by assumption))))) ?_; clear hK K; (try simp only [Act.put, List.setIfInBounds_toArray, List.set_cons_zero, List.set_cons_succ])))
            refine mix_nil ?_)
          | (
            with_reducible refine wp_region_ext (by kernel_rfl) (by kernel_rfl) ?_
            repeat (first | go_big_quiet_skip | (go_big_quiet_want; go_big_quiet_op; first | go_big_quiet_on | (apply Exists.intro; refine ⟨fun _ => ?_, ?_⟩; (fail); (try rw [h1]); (try rw [h2]); (try rw [h3]); (try rw [h4]); (try rw [p1]); (try rw [p2]); (try rw [p3]); (try rw [p4]); (try rw [r1]); (try rw [r2]); (try rw [r3]); (try rw [r4]); (try rw [r5]); (try rw [r6]); (try rw [q3]); (try rw [q4]); (try rw [hp]); (try rw [hq]); go_big_quiet_on)))
            refine wpQuiet_nil ?_
            rintro _ ⟨tq, rfl⟩))
      refine bodyPost_ret (v := .agg #[.int .i64 (({ x with kind := y })).n, .int .i64 (({ x with kind := y })).kind, .int .i64 (({ x with kind := y })).wk.id, .int .i64 (({ x with kind := y })).wk.at_, .int .i64 (({ x with kind := y })).wk.coins, .int .i64 (({ x with kind := y })).wk.seq, .int .i64 (({ x with kind := y })).wk.last, .int .i64 (({ x with kind := y })).coins]) (by simp [results, Try.results86, go_sem, cs0, cs1, cs2, cs3, cs4, cs5, cs6, cs7, cr0, cr1, cr2, cr3, cr4, cr5, cr6, cr7, ls, lr, hSR, hRS]) rfl ?_
      exact ⟨{ x with kind := y }, rfl, (HRV.out.chg (B := [S, R]) (by repeat (first | with_reducible exact Chg.refl _ _ | with_reducible apply Chg.drew | (with_reducible refine Chg.extR ?_ (by simp)) | (with_reducible refine Chg.set ?_ (by simp) _) | with_reducible apply Chg.alloc | with_reducible apply Chg.ext | with_reducible refine Chg.trans ?_ (Hid.out (by assumption)))) (by simp; omega) (Nat.le_refl _)).up (by omega), Chg.fin (B := [S, R]) ((HCV.out.mono (B' := [p, S, R]) (by simp)).trans (by repeat (first | with_reducible exact Chg.refl _ _ | with_reducible apply Chg.drew | (with_reducible refine Chg.extR ?_ (by simp)) | (with_reducible refine Chg.set ?_ (by simp) _) | with_reducible apply Chg.alloc | with_reducible apply Chg.ext | with_reducible refine Chg.trans ?_ (Hid.out (by assumption))))) (by simp; omega)⟩
    · try go_wp2_with (first
          | fail
          | (
            with_reducible refine wp_region_mix (by kernel_rfl) (by decide +kernel) ?_
            repeat (first
              | (refine mix_pure rfl ?_; (first | go_big_quiet_skip | (go_big_quiet_want; go_big_quiet_op; go_big_quiet_on)); refine wpQuiet_nil ?_)
              | (refine mix_skip (by rfl) ?_; (try simp only [Act.put, List.setIfInBounds_toArray, List.set_cons_zero, List.set_cons_succ]))
              | (refine mix_mk rfl (by rfl) (fun K hK => ?_); (first | (go_simp; first | skip)); (show K _ _); refine hK _ _ (show Ext _ _ from (by ((try simp only [ext_drew]); (try simp only [ext_ext]); repeat (first | exact Ext.refl _ | with_reducible apply Ext.add | with_reducible apply Ext.dr | apply Ext.alloc | apply Ext.ext | apply Ext.drew | refine Ext.trans ?_ (by assumption))))) ?_; clear hK K; (try simp only [Act.put, List.setIfInBounds_toArray, List.set_cons_zero, List.set_cons_succ])))
            refine mix_nil ?_)
          | (
            with_reducible refine wp_region_ext (by kernel_rfl) (by kernel_rfl) ?_
            repeat (first | go_big_quiet_skip | (go_big_quiet_want; go_big_quiet_op; first | go_big_quiet_on | (apply Exists.intro; refine ⟨fun _ => ?_, ?_⟩; (fail); (try rw [h1]); (try rw [h2]); (try rw [h3]); (try rw [h4]); (try rw [p1]); (try rw [p2]); (try rw [p3]); (try rw [p4]); (try rw [r1]); (try rw [r2]); (try rw [r3]); (try rw [r4]); (try rw [r5]); (try rw [r6]); (try rw [q3]); (try rw [q4]); (try rw [hp]); (try rw [hq]); go_big_quiet_on)))
            refine wpQuiet_nil ?_
            rintro _ ⟨tq, rfl⟩))
      refine (l20BadWalker_u lo p (Q + 162) x.wk Z HRZ.out (by omega)).mono ?_
      rintro e V ⟨y, rfl, _, hRV, hCV⟩
      have bsV := (hCV.block S ls (by simpa using hSp)).trans HBS.out
      have brV := (hCV.block R lr (by simpa using hRp)).trans HBR.out
      have HRV := hid hRV
      have HCV := hid (HCZ.out.trans hCV)
      clear HBS HBR HRZ HCZ cs0 cs1 cs2 cs3 cs4 cs5 cs6 cs7 zcs0 zcs1 zcs2 zcs3 zcs4 zcs5 zcs6 zcs7 cr0 cr1 cr2 cr3 cr4 cr5 cr6 cr7 zcr0 zcr1 zcr2 zcr3 zcr4 zcr5 zcr6 zcr7 ls lr hRV hCV
      have cs0 : V.cell? ⟨S, 0, none⟩ = some (.int .i64 x.n) := (cell_blk bsV 0).trans rfl
      have cs1 : V.cell? ⟨S, 1, none⟩ = some (.int .i64 x.kind) := (cell_blk bsV 1).trans rfl
      have cs2 : V.cell? ⟨S, 2, none⟩ = some (.int .i64 x.wk.id) := (cell_blk bsV 2).trans rfl
      have cs3 : V.cell? ⟨S, 3, none⟩ = some (.int .i64 x.wk.at_) := (cell_blk bsV 3).trans rfl
      have cs4 : V.cell? ⟨S, 4, none⟩ = some (.int .i64 x.wk.coins) := (cell_blk bsV 4).trans rfl
      have cs5 : V.cell? ⟨S, 5, none⟩ = some (.int .i64 x.wk.seq) := (cell_blk bsV 5).trans rfl
      have cs6 : V.cell? ⟨S, 6, none⟩ = some (.int .i64 x.wk.last) := (cell_blk bsV 6).trans rfl
      have cs7 : V.cell? ⟨S, 7, none⟩ = some (.int .i64 x.coins) := (cell_blk bsV 7).trans rfl
      have zcs0 := frozen_blk bsV 0
      have zcs1 := frozen_blk bsV 1
      have zcs2 := frozen_blk bsV 2
      have zcs3 := frozen_blk bsV 3
      have zcs4 := frozen_blk bsV 4
      have zcs5 := frozen_blk bsV 5
      have zcs6 := frozen_blk bsV 6
      have zcs7 := frozen_blk bsV 7
      have cr0 : V.cell? ⟨R, 0, none⟩ = some (.int .i64 0) := (cell_blk brV 0).trans rfl
      have cr1 : V.cell? ⟨R, 1, none⟩ = some (.int .i64 0) := (cell_blk brV 1).trans rfl
      have cr2 : V.cell? ⟨R, 2, none⟩ = some (.int .i64 0) := (cell_blk brV 2).trans rfl
      have cr3 : V.cell? ⟨R, 3, none⟩ = some (.int .i64 0) := (cell_blk brV 3).trans rfl
      have cr4 : V.cell? ⟨R, 4, none⟩ = some (.int .i64 0) := (cell_blk brV 4).trans rfl
      have cr5 : V.cell? ⟨R, 5, none⟩ = some (.int .i64 0) := (cell_blk brV 5).trans rfl
      have cr6 : V.cell? ⟨R, 6, none⟩ = some (.int .i64 0) := (cell_blk brV 6).trans rfl
      have cr7 : V.cell? ⟨R, 7, none⟩ = some (.int .i64 0) := (cell_blk brV 7).trans rfl
      have zcr0 := frozen_blk brV 0
      have zcr1 := frozen_blk brV 1
      have zcr2 := frozen_blk brV 2
      have zcr3 := frozen_blk brV 3
      have zcr4 := frozen_blk brV 4
      have zcr5 := frozen_blk brV 5
      have zcr6 := frozen_blk brV 6
      have zcr7 := frozen_blk brV 7
      have ls := lt_blk bsV
      have lr := lt_blk brV
      clear bsV brV
      try go_wp2_with (first
          | fail
          | (
            with_reducible refine wp_region_mix (by kernel_rfl) (by decide +kernel) ?_
            repeat (first
              | (refine mix_pure rfl ?_; (first | go_big_quiet_skip | (go_big_quiet_want; go_big_quiet_op; go_big_quiet_on)); refine wpQuiet_nil ?_)
              | (refine mix_skip (by rfl) ?_; (try simp only [Act.put, List.setIfInBounds_toArray, List.set_cons_zero, List.set_cons_succ]))
              | (refine mix_mk rfl (by rfl) (fun K hK => ?_); (first | (go_simp; first | skip)); (show K _ _); refine hK _ _ (show Ext _ _ from (by ((try simp only [ext_drew]); (try simp only [ext_ext]); repeat (first | exact Ext.refl _ | with_reducible apply Ext.add | with_reducible apply Ext.dr | apply Ext.alloc | apply Ext.ext | apply Ext.drew | refine Ext.trans ?_ (by assumption))))) ?_; clear hK K; (try simp only [Act.put, List.setIfInBounds_toArray, List.set_cons_zero, List.set_cons_succ])))
            refine mix_nil ?_)
          | (
            with_reducible refine wp_region_ext (by kernel_rfl) (by kernel_rfl) ?_
            repeat (first | go_big_quiet_skip | (go_big_quiet_want; go_big_quiet_op; first | go_big_quiet_on | (apply Exists.intro; refine ⟨fun _ => ?_, ?_⟩; (fail); (try rw [h1]); (try rw [h2]); (try rw [h3]); (try rw [h4]); (try rw [p1]); (try rw [p2]); (try rw [p3]); (try rw [p4]); (try rw [r1]); (try rw [r2]); (try rw [r3]); (try rw [r4]); (try rw [r5]); (try rw [r6]); (try rw [q3]); (try rw [q4]); (try rw [hp]); (try rw [hq]); go_big_quiet_on)))
            refine wpQuiet_nil ?_
            rintro _ ⟨tq, rfl⟩))
      refine bodyPost_ret (v := .agg #[.int .i64 (({ x with wk := y })).n, .int .i64 (({ x with wk := y })).kind, .int .i64 (({ x with wk := y })).wk.id, .int .i64 (({ x with wk := y })).wk.at_, .int .i64 (({ x with wk := y })).wk.coins, .int .i64 (({ x with wk := y })).wk.seq, .int .i64 (({ x with wk := y })).wk.last, .int .i64 (({ x with wk := y })).coins]) (by simp [results, Try.results86, go_sem, cs0, cs1, cs2, cs3, cs4, cs5, cs6, cs7, cr0, cr1, cr2, cr3, cr4, cr5, cr6, cr7, ls, lr, hSR, hRS]) rfl ?_
      exact ⟨{ x with wk := y }, rfl, (HRV.out.chg (B := [S, R]) (by repeat (first | with_reducible exact Chg.refl _ _ | with_reducible apply Chg.drew | (with_reducible refine Chg.extR ?_ (by simp)) | (with_reducible refine Chg.set ?_ (by simp) _) | with_reducible apply Chg.alloc | with_reducible apply Chg.ext | with_reducible refine Chg.trans ?_ (Hid.out (by assumption)))) (by simp; omega) (Nat.le_refl _)).up (by omega), Chg.fin (B := [S, R]) ((HCV.out.mono (B' := [p, S, R]) (by simp)).trans (by repeat (first | with_reducible exact Chg.refl _ _ | with_reducible apply Chg.drew | (with_reducible refine Chg.extR ?_ (by simp)) | (with_reducible refine Chg.set ?_ (by simp) _) | with_reducible apply Chg.alloc | with_reducible apply Chg.ext | with_reducible refine Chg.trans ?_ (Hid.out (by assumption))))) (by simp; omega)⟩
    ·
      try go_wp2_with (first
          | fail
          | (
            with_reducible refine wp_region_mix (by kernel_rfl) (by decide +kernel) ?_
            repeat (first
              | (refine mix_pure rfl ?_; (first | go_big_quiet_skip | (go_big_quiet_want; go_big_quiet_op; go_big_quiet_on)); refine wpQuiet_nil ?_)
              | (refine mix_skip (by rfl) ?_; (try simp only [Act.put, List.setIfInBounds_toArray, List.set_cons_zero, List.set_cons_succ]))
              | (refine mix_mk rfl (by rfl) (fun K hK => ?_); (first | (go_simp; first | skip)); (show K _ _); refine hK _ _ (show Ext _ _ from (by ((try simp only [ext_drew]); (try simp only [ext_ext]); repeat (first | exact Ext.refl _ | with_reducible apply Ext.add | with_reducible apply Ext.dr | apply Ext.alloc | apply Ext.ext | apply Ext.drew | refine Ext.trans ?_ (by assumption))))) ?_; clear hK K; (try simp only [Act.put, List.setIfInBounds_toArray, List.set_cons_zero, List.set_cons_succ])))
            refine mix_nil ?_)
          | (
            with_reducible refine wp_region_ext (by kernel_rfl) (by kernel_rfl) ?_
            repeat (first | go_big_quiet_skip | (go_big_quiet_want; go_big_quiet_op; first | go_big_quiet_on | (apply Exists.intro; refine ⟨fun _ => ?_, ?_⟩; (fail); (try rw [h1]); (try rw [h2]); (try rw [h3]); (try rw [h4]); (try rw [p1]); (try rw [p2]); (try rw [p3]); (try rw [p4]); (try rw [r1]); (try rw [r2]); (try rw [r3]); (try rw [r4]); (try rw [r5]); (try rw [r6]); (try rw [q3]); (try rw [q4]); (try rw [hp]); (try rw [hq]); go_big_quiet_on)))
            refine wpQuiet_nil ?_
            rintro _ ⟨tq, rfl⟩))
      refine calls_gen fun X hX => ?_
      obtain ⟨A, hA⟩ : ∃ A, Z.heap.size = A := ⟨_, rfl⟩
      have EX : Ext Z X := by rw [hX]; ((try simp only [ext_drew]); (try simp only [ext_ext]); repeat (first | exact Ext.refl _ | with_reducible apply Ext.add | with_reducible apply Ext.dr | apply Ext.alloc | apply Ext.ext | apply Ext.drew | refine Ext.trans ?_ (by assumption)))
      have ba : X.heap[A]? = some (.cells #[.int .i64 0, .int .i64 10, .int .i64 1, .int .i64 (-1)] 3 (0, 0)) := by rw [hX, ← hA]; exact (by repeat (first | exact alloc_last (by (try simp [go_sem]) <;> (try simp [Xt.add]) <;> omega) | with_reducible refine blk_alloc ?_ | with_reducible refine blk_ext ?_ | with_reducible apply blk_drew))
      have bs := (EX.block (lt_blk HBS.out)).trans HBS.out
      have br := (EX.block (lt_blk HBR.out)).trans HBR.out
      have HRX := hid (HRZ.out.of EX)
      have HCX := hid (HCZ.out.trans (Chg.of_ext EX [p]))
      rw [hA]
      have lpZ := HRZ.out.lt
      have hAp : A ≠ p := by omega
      clear hX EX hA HBS HBR HRZ HCZ cs0 cs1 cs2 cs3 cs4 cs5 cs6 cs7 zcs0 zcs1 zcs2 zcs3 zcs4 zcs5 zcs6 zcs7 cr0 cr1 cr2 cr3 cr4 cr5 cr6 cr7 zcr0 zcr1 zcr2 zcr3 zcr4 zcr5 zcr6 zcr7 ls lr
      refine (pick_c lo p _ 4 X HRX.out (by omega) (by omega) (by omega)).mono ?_
      rintro e V ⟨v, rfl, hv0', hv1', hRV, hCV⟩
      obtain ⟨i, rfl⟩ : ∃ i : Nat, v = (i : Int) := ⟨v.toNat, by omega⟩
      have bsV := (hCV.block S (lt_blk bs) (by simpa using hSp)).trans bs
      have brV := (hCV.block R (lt_blk br) (by simpa using hRp)).trans br
      have baV := (hCV.block A (lt_blk ba) (by simpa using hAp)).trans ba
      obtain ⟨y, hyx, hyc⟩ := arr_at (xs := [0, 10, 1, -1]) (i := i) baV (by simp; omega)
      have HRV := hid hRV
      have HCV := hid (HCX.out.trans hCV)
      have la := lt_blk baV
      have za := frozen_blk baV i
      have hin : (i : Int) < 4 := by omega
      clear ba bs br baV hRV hCV HRX HCX hyx
      have cs0 : V.cell? ⟨S, 0, none⟩ = some (.int .i64 x.n) := (cell_blk bsV 0).trans rfl
      have cs1 : V.cell? ⟨S, 1, none⟩ = some (.int .i64 x.kind) := (cell_blk bsV 1).trans rfl
      have cs2 : V.cell? ⟨S, 2, none⟩ = some (.int .i64 x.wk.id) := (cell_blk bsV 2).trans rfl
      have cs3 : V.cell? ⟨S, 3, none⟩ = some (.int .i64 x.wk.at_) := (cell_blk bsV 3).trans rfl
      have cs4 : V.cell? ⟨S, 4, none⟩ = some (.int .i64 x.wk.coins) := (cell_blk bsV 4).trans rfl
      have cs5 : V.cell? ⟨S, 5, none⟩ = some (.int .i64 x.wk.seq) := (cell_blk bsV 5).trans rfl
      have cs6 : V.cell? ⟨S, 6, none⟩ = some (.int .i64 x.wk.last) := (cell_blk bsV 6).trans rfl
      have cs7 : V.cell? ⟨S, 7, none⟩ = some (.int .i64 x.coins) := (cell_blk bsV 7).trans rfl
      have zcs0 := frozen_blk bsV 0
      have zcs1 := frozen_blk bsV 1
      have zcs2 := frozen_blk bsV 2
      have zcs3 := frozen_blk bsV 3
      have zcs4 := frozen_blk bsV 4
      have zcs5 := frozen_blk bsV 5
      have zcs6 := frozen_blk bsV 6
      have zcs7 := frozen_blk bsV 7
      have cr0 : V.cell? ⟨R, 0, none⟩ = some (.int .i64 0) := (cell_blk brV 0).trans rfl
      have cr1 : V.cell? ⟨R, 1, none⟩ = some (.int .i64 0) := (cell_blk brV 1).trans rfl
      have cr2 : V.cell? ⟨R, 2, none⟩ = some (.int .i64 0) := (cell_blk brV 2).trans rfl
      have cr3 : V.cell? ⟨R, 3, none⟩ = some (.int .i64 0) := (cell_blk brV 3).trans rfl
      have cr4 : V.cell? ⟨R, 4, none⟩ = some (.int .i64 0) := (cell_blk brV 4).trans rfl
      have cr5 : V.cell? ⟨R, 5, none⟩ = some (.int .i64 0) := (cell_blk brV 5).trans rfl
      have cr6 : V.cell? ⟨R, 6, none⟩ = some (.int .i64 0) := (cell_blk brV 6).trans rfl
      have cr7 : V.cell? ⟨R, 7, none⟩ = some (.int .i64 0) := (cell_blk brV 7).trans rfl
      have zcr0 := frozen_blk brV 0
      have zcr1 := frozen_blk brV 1
      have zcr2 := frozen_blk brV 2
      have zcr3 := frozen_blk brV 3
      have zcr4 := frozen_blk brV 4
      have zcr5 := frozen_blk brV 5
      have zcr6 := frozen_blk brV 6
      have zcr7 := frozen_blk brV 7
      have ls := lt_blk bsV
      have lr := lt_blk brV
      clear bsV brV
      try go_wp2_with (first
          | fail
          | (
            with_reducible refine wp_region_mix (by kernel_rfl) (by decide +kernel) ?_
            repeat (first
              | (refine mix_pure rfl ?_; (first | go_big_quiet_skip | (go_big_quiet_want; go_big_quiet_op; go_big_quiet_on)); refine wpQuiet_nil ?_)
              | (refine mix_skip (by rfl) ?_; (try simp only [Act.put, List.setIfInBounds_toArray, List.set_cons_zero, List.set_cons_succ]))
              | (refine mix_mk rfl (by rfl) (fun K hK => ?_); (first | (go_simp; first | skip)); (show K _ _); refine hK _ _ (show Ext _ _ from (by ((try simp only [ext_drew]); (try simp only [ext_ext]); repeat (first | exact Ext.refl _ | with_reducible apply Ext.add | with_reducible apply Ext.dr | apply Ext.alloc | apply Ext.ext | apply Ext.drew | refine Ext.trans ?_ (by assumption))))) ?_; clear hK K; (try simp only [Act.put, List.setIfInBounds_toArray, List.set_cons_zero, List.set_cons_succ])))
            refine mix_nil ?_)
          | (
            with_reducible refine wp_region_ext (by kernel_rfl) (by kernel_rfl) ?_
            repeat (first | go_big_quiet_skip | (go_big_quiet_want; go_big_quiet_op; first | go_big_quiet_on | (apply Exists.intro; refine ⟨fun _ => ?_, ?_⟩; (fail); (try rw [h1]); (try rw [h2]); (try rw [h3]); (try rw [h4]); (try rw [p1]); (try rw [p2]); (try rw [p3]); (try rw [p4]); (try rw [r1]); (try rw [r2]); (try rw [r3]); (try rw [r4]); (try rw [r5]); (try rw [r6]); (try rw [q3]); (try rw [q4]); (try rw [hp]); (try rw [hq]); go_big_quiet_on)))
            refine wpQuiet_nil ?_
            rintro _ ⟨tq, rfl⟩))
      refine bodyPost_ret (v := .agg #[.int .i64 (({ x with coins := y })).n, .int .i64 (({ x with coins := y })).kind, .int .i64 (({ x with coins := y })).wk.id, .int .i64 (({ x with coins := y })).wk.at_, .int .i64 (({ x with coins := y })).wk.coins, .int .i64 (({ x with coins := y })).wk.seq, .int .i64 (({ x with coins := y })).wk.last, .int .i64 (({ x with coins := y })).coins]) (by simp [results, Try.results86, go_sem, cs0, cs1, cs2, cs3, cs4, cs5, cs6, cs7, cr0, cr1, cr2, cr3, cr4, cr5, cr6, cr7, ls, lr, hSR, hRS]) rfl ?_
      exact ⟨{ x with coins := y }, rfl, (HRV.out.chg (B := [S, R]) (by repeat (first | with_reducible exact Chg.refl _ _ | with_reducible apply Chg.drew | (with_reducible refine Chg.extR ?_ (by simp)) | (with_reducible refine Chg.set ?_ (by simp) _) | with_reducible apply Chg.alloc | with_reducible apply Chg.ext | with_reducible refine Chg.trans ?_ (Hid.out (by assumption)))) (by simp; omega) (Nat.le_refl _)).up (by omega), Chg.fin (B := [S, R]) ((HCV.out.mono (B' := [p, S, R]) (by simp)).trans (by repeat (first | with_reducible exact Chg.refl _ _ | with_reducible apply Chg.drew | (with_reducible refine Chg.extR ?_ (by simp)) | (with_reducible refine Chg.set ?_ (by simp) _) | with_reducible apply Chg.alloc | with_reducible apply Chg.ext | with_reducible refine Chg.trans ?_ (Hid.out (by assumption))))) (by simp; omega)⟩
end Go.Proofs.Ytbbpipbemhggdaa
