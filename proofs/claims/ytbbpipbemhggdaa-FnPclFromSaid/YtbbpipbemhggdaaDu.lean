/- DrawPclListOk: a map, parcels and a number are drawn. -/
import Derived.Test.YtbbpipbemhggdaaDt
namespace Go.Proofs.Ytbbpipbemhggdaa
open Go.RowKit
set_option linter.unusedSimpArgs false
set_option linter.unusedVariables false

set_option maxRecDepth 100000 in
set_option maxHeartbeats 8000000 in
theorem DrawPclListOk_c (n c : Nat) (a : Option Addr) (w : World) (hB : Bytes w.heap.size w a n) (hc : n ≤ c) :
    Calls Try.prog 29 #[.slice a n c] w fun e w' => ∃ (m : Mp) (v : Value) (xs : List Pcl) (nx : Int), e = .returned (.tuple #[.agg #[.int .i64 m.c, .int .i64 m.w], v, .int .i64 nx]) ∧ LstP w.heap.size w' v xs ∧ xs.length ≤ 3 ∧ (-10 ≤ nx ∧ nx ≤ 5010) ∧ Ext w w' := by
  have HB := hid hB
  clear hB
  go_enter Try.func29, Try.ntmps29
  try go_wp2_with (first
      | (go_at_call 54; refine (l20Open_c w.heap.size n c a _ (HB.out.chg (B := []) (Chg.of_ext (by ((try simp only [ext_drew]); (try simp only [ext_ext]); repeat (first | exact Ext.refl _ | with_reducible apply Ext.add | with_reducible apply Ext.dr | apply Ext.alloc | apply Ext.ext | apply Ext.drew | refine Ext.trans ?_ (by assumption)))) []) (by simp) (Nat.le_refl _)) (by (try simp [go_sem]) <;> (try simp [Xt.add]) <;> omega) hc).mono ?_; rintro e w1 ⟨rfl, hR, hE⟩; have HR := hid hR; have HE := hid hE; clear hR hE)
      | (
        with_reducible refine wp_region_mix (by kernel_rfl) (by decide +kernel) ?_
        repeat (first
          | (refine mix_pure rfl ?_; (first | go_big_quiet_skip | (go_big_quiet_want; go_big_quiet_op; go_big_quiet_on)); refine wpQuiet_nil ?_)
          | (refine mix_skip (by rfl) ?_; (try simp only [Act.put, List.setIfInBounds_toArray, List.set_cons_zero, List.set_cons_succ]))
          | (refine mix_mk rfl (by rfl) (fun K hK => ?_); (first | (go_simp; first | (go_at_call 54; refine (l20Open_c w.heap.size n c a _ (HB.out.chg (B := []) (Chg.of_ext (by ((try simp only [ext_drew]); (try simp only [ext_ext]); repeat (first | exact Ext.refl _ | with_reducible apply Ext.add | with_reducible apply Ext.dr | apply Ext.alloc | apply Ext.ext | apply Ext.drew | refine Ext.trans ?_ (by assumption)))) []) (by simp) (Nat.le_refl _)) (by (try simp [go_sem]) <;> (try simp [Xt.add]) <;> omega) hc).mono ?_; rintro e w1 ⟨rfl, hR, hE⟩; have HR := hid hR; have HE := hid hE; clear hR hE) | skip)); (show K _ _); refine hK _ _ (show Ext _ _ from (by ((try simp only [ext_drew]); (try simp only [ext_ext]); repeat (first | exact Ext.refl _ | with_reducible apply Ext.add | with_reducible apply Ext.dr | apply Ext.alloc | apply Ext.ext | apply Ext.drew | refine Ext.trans ?_ (by assumption))))) ?_; clear hK K; (try simp only [Act.put, List.setIfInBounds_toArray, List.set_cons_zero, List.set_cons_succ])))
        refine mix_nil ?_)
      | (
        with_reducible refine wp_region_ext (by kernel_rfl) (by kernel_rfl) ?_
        repeat (first | go_big_quiet_skip | (go_big_quiet_want; go_big_quiet_op; first | go_big_quiet_on | (apply Exists.intro; refine ⟨fun _ => ?_, ?_⟩; (fail); (try rw [h1]); (try rw [h2]); (try rw [h3]); (try rw [h4]); (try rw [p1]); (try rw [p2]); (try rw [p3]); (try rw [p4]); (try rw [r1]); (try rw [r2]); (try rw [r3]); (try rw [r4]); (try rw [r5]); (try rw [r6]); (try rw [q3]); (try rw [q4]); (try rw [hp]); (try rw [hq]); go_big_quiet_on)))
        refine wpQuiet_nil ?_
        rintro _ ⟨tq, rfl⟩))
  obtain ⟨p, hp⟩ : ∃ p, (w.alloc (Obj.cells #[.int .i64 0, .int .i64 0] 24)).heap.size = p := ⟨_, rfl⟩
  have hp1 : p = w.heap.size + 1 := by rw [← hp]; simp
  have hR0 := HR.out
  rw [hp] at hR0
  have bR0 : w1.heap[w.heap.size]? = some (.cells #[.int .i64 0, .int .i64 0] 24 (0, 0)) := (HE.out.block (by simp)).trans (alloc_last (by simp))
  have hpW : p < w1.heap.size := hR0.lt
  have EW1 := hid (show Ext w w1 from ((Ext.refl w).alloc _).trans HE.out)
  rw [← hp1]
  obtain ⟨R, hRe⟩ : ∃ R, w.heap.size = R := ⟨_, rfl⟩
  have HJ := hid (show Rdr w.heap.size p 0 w1 ∧ MpB R w1 from ⟨hR0, ⟨0, 0⟩, hRe ▸ bR0⟩)
  have hRW : R < w1.heap.size := hRe ▸ lt_blk bR0
  have hRp : R ≠ p := by omega
  have hloR : w.heap.size ≤ R := by omega
  have hwp : w.heap.size ≤ p := by omega
  have hwR : w.heap.size ≤ R := by omega
  rw [hRe]
  rw [hRe] at HJ
  clear HR HE hp hp1 hR0 bR0
  have HR0 := hid HJ.out.1
  refine (l20Map_c R p 0 w1 HR0.out (by omega)).mono ?_
  rintro e w2 ⟨m, rfl, hm, hR2, hC2⟩
  have bR2 : MpB R w2 := HJ.out.2.chg hC2 (by simpa using hRp)
  have hE2 : Ext w w2 := EW1.out.chg2 (R := p) (hC2.mono (by simp)) (by omega) (by omega)
  have HR2 := hid hR2
  have HC2 := hid bR2
  have HE2 := hid hE2
  have HM := hid hm
  have lR2 : R < w2.heap.size := by obtain ⟨_, hb⟩ := bR2; exact lt_blk hb
  clear hR2 bR2 hE2 HR0 HJ EW1 hm
  try go_wp2_with (first
      | fail
      | (
        with_reducible refine wp_region_mix (by kernel_rfl) (by decide +kernel) ?_
        repeat (first
          | (refine mix_pure rfl ?_; (first | go_big_quiet_skip | (go_big_quiet_want; go_big_quiet_op; go_big_quiet_on)); refine wpQuiet_nil ?_)
          | (refine mix_skip (by rfl) ?_; (try simp only [Act.put, List.setIfInBounds_toArray, List.set_cons_zero, List.set_cons_succ]))
          | (refine mix_mk rfl (by rfl) (fun K hK => ?_); (first | (go_simp; first | skip)); (show K _ _); refine hK _ _ (show Ext _ _ from (by ((try simp only [ext_drew]); (try simp only [ext_ext]); repeat (first | exact Ext.refl _ | with_reducible apply Ext.add | with_reducible apply Ext.dr | apply Ext.alloc | apply Ext.ext | apply Ext.drew | refine Ext.trans ?_ (by assumption))))) ?_; clear hK K; (try simp only [Act.put, List.setIfInBounds_toArray, List.set_cons_zero, List.set_cons_succ])))
        refine mix_nil ?_)
      | (
        with_reducible refine wp_region_ext (by kernel_rfl) (by kernel_rfl) ?_
        repeat (first | go_big_quiet_skip | (go_big_quiet_want; go_big_quiet_op; first | go_big_quiet_on | (apply Exists.intro; refine ⟨fun _ => ?_, ?_⟩; (fail); (try rw [h1]); (try rw [h2]); (try rw [h3]); (try rw [h4]); (try rw [p1]); (try rw [p2]); (try rw [p3]); (try rw [p4]); (try rw [r1]); (try rw [r2]); (try rw [r3]); (try rw [r4]); (try rw [r5]); (try rw [r6]); (try rw [q3]); (try rw [q4]); (try rw [hp]); (try rw [hq]); go_big_quiet_on)))
        refine wpQuiet_nil ?_
        rintro _ ⟨tq, rfl⟩))
  refine calls_gen fun X hX => ?_
  obtain ⟨M, hM⟩ : ∃ M, w2.heap.size = M := ⟨_, rfl⟩
  have EX : Ext w2 X := by rw [hX]; ((try simp only [ext_drew]); (try simp only [ext_ext]); repeat (first | exact Ext.refl _ | with_reducible apply Ext.add | with_reducible apply Ext.dr | apply Ext.alloc | apply Ext.ext | apply Ext.drew | refine Ext.trans ?_ (by assumption)))
  have bM : X.heap[M]? = some (oMp m) := by rw [hX, ← hM]; exact (by repeat (first | exact alloc_last (by (try simp [go_sem]) <;> (try simp [Xt.add]) <;> omega) | with_reducible refine blk_alloc ?_ | with_reducible refine blk_ext ?_ | with_reducible apply blk_drew))
  have lp2 := HR2.out.lt
  have EXs := EX.size
  have hMR : M ≠ R := by omega
  have hRM : R ≠ M := by omega
  have hMp : M ≠ p := by omega
  have hwX := (HE2.out.trans EX).size
  have HRX := hid (HR2.out.of EX)
  have HBX := hid (HC2.out.of EX)
  have HEX := hid (HE2.out.trans EX)
  rw [hM]
  clear hX EX hM HR2 HC2 HE2
  refine (l20Parcels_c R p 4 m X HRX.out (by omega) HM.out).mono ?_
  rintro e Y ⟨v, xs, nx, rfl, hls, hln, hnx, hRY, hCY⟩
  obtain ⟨x0, hb0⟩ := HBX.out.chg hCY (by simpa using hRp)
  have hbM := (hCY.block M (lt_blk bM) (by simpa using hMp)).trans bM
  have cM0 : Y.cell? ⟨M, 0, none⟩ = some (.int .i64 m.c) := (cell_blk hbM 0).trans rfl
  have cM1 : Y.cell? ⟨M, 1, none⟩ = some (.int .i64 m.w) := (cell_blk hbM 1).trans rfl
  have cR0 : Y.cell? ⟨R, 0, none⟩ = some (.int .i64 x0.c) := (cell_blk hb0 0).trans rfl
  have cR1 : Y.cell? ⟨R, 1, none⟩ = some (.int .i64 x0.w) := (cell_blk hb0 1).trans rfl
  have zR0 := frozen_blk hb0 0
  have zR1 := frozen_blk hb0 1
  have lR := lt_blk hb0
  have lM := lt_blk hbM
  have hRX : R < X.heap.size := by have := EXs; omega
  have HLS := hid hls
  have HEY := hid (Chg.finE (B := [p]) ((Chg.of_ext HEX.out [p]).trans hCY) (by simp; omega))
  have HC9 := hid ((Chg.of_ext HEX.out [p]).trans hCY)
  clear hb0 hbM bM hls hRY hCY HRX HBX HEX
  try go_wp2_with (first
      | fail
      | (
        with_reducible refine wp_region_mix (by kernel_rfl) (by decide +kernel) ?_
        repeat (first
          | (refine mix_pure rfl ?_; (first | go_big_quiet_skip | (go_big_quiet_want; go_big_quiet_op; go_big_quiet_on)); refine wpQuiet_nil ?_)
          | (refine mix_skip (by rfl) ?_; (try simp only [Act.put, List.setIfInBounds_toArray, List.set_cons_zero, List.set_cons_succ]))
          | (refine mix_mk rfl (by rfl) (fun K hK => ?_); (first | (go_simp; first | skip)); (show K _ _); refine hK _ _ (show Ext _ _ from (by ((try simp only [ext_drew]); (try simp only [ext_ext]); repeat (first | exact Ext.refl _ | with_reducible apply Ext.add | with_reducible apply Ext.dr | apply Ext.alloc | apply Ext.ext | apply Ext.drew | refine Ext.trans ?_ (by assumption))))) ?_; clear hK K; (try simp only [Act.put, List.setIfInBounds_toArray, List.set_cons_zero, List.set_cons_succ])))
        refine mix_nil ?_)
      | (
        with_reducible refine wp_region_ext (by kernel_rfl) (by kernel_rfl) ?_
        repeat (first | go_big_quiet_skip | (go_big_quiet_want; go_big_quiet_op; first | go_big_quiet_on | (apply Exists.intro; refine ⟨fun _ => ?_, ?_⟩; (fail); (try rw [h1]); (try rw [h2]); (try rw [h3]); (try rw [h4]); (try rw [p1]); (try rw [p2]); (try rw [p3]); (try rw [p4]); (try rw [r1]); (try rw [r2]); (try rw [r3]); (try rw [r4]); (try rw [r5]); (try rw [r6]); (try rw [q3]); (try rw [q4]); (try rw [hp]); (try rw [hq]); go_big_quiet_on)))
        refine wpQuiet_nil ?_
        rintro _ ⟨tq, rfl⟩))
  refine bodyPost_ret (v := .tuple #[.agg #[.int .i64 m.c, .int .i64 m.w], v, .int .i64 nx]) (by simp [results, Try.results29, go_sem, cM0, cM1, cR0, cR1, lR, lM, hMR, hRM]) rfl ?_
  exact ⟨m, v, xs, nx, rfl, (HLS.out.chg (B' := [R]) (by repeat (first | with_reducible exact Chg.refl _ _ | with_reducible apply Chg.drew | with_reducible apply Chg.drewl | with_reducible refine Chg.turn (by simp) | with_reducible refine Chg.both ?_ (by simp) | (with_reducible refine Chg.set ?_ (by simp) _) | with_reducible apply Chg.alloc | with_reducible apply Chg.ext)) (by simp; omega)).le hwX, hln, hnx, Chg.finE (B := [p, R]) ((HC9.out.mono (B' := [p, R]) (by simp)).trans (by repeat (first | with_reducible exact Chg.refl _ _ | with_reducible apply Chg.drew | with_reducible apply Chg.drewl | with_reducible refine Chg.turn (by simp) | with_reducible refine Chg.both ?_ (by simp) | (with_reducible refine Chg.set ?_ (by simp) _) | with_reducible apply Chg.alloc | with_reducible apply Chg.ext))) (by simp; omega)⟩
end Go.Proofs.Ytbbpipbemhggdaa
