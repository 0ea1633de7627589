/- Draws: a world in which the reader has moved on; walkers that are spoilt. -/
import Derived.Test.YtbbpipbemhggdaaDrawW
namespace Go.Proofs.Ytbbpipbemhggdaa
open Go.RowKit
set_option linter.unusedSimpArgs false
set_option linter.unusedVariables false

theorem Chg.putBlk {B : List Nat} {a w : World} {R : Nat} {ob : Obj} (h : Chg B a w) (hR : R ∈ B) : Chg B a (Go.Proofs.Ytbbpipbemhggdaa.putBlk w R ob) :=
  h.trans ⟨rfl, rfl, rfl, by simp [Go.Proofs.Ytbbpipbemhggdaa.putBlk], fun k _ hn => putBlk_block w R ob k fun e => hn (e ▸ hR)⟩
theorem Chg.extR {B : List Nat} {a w : World} {R : Nat} {x : Xr} (h : Chg B a w) (hR : R ∈ B) : Chg B a (Go.Proofs.Ytbbpipbemhggdaa.extR w R x) := (h.putBlk hR).ext
/-- Blocks of one's own have changed beside the reader's. -/
theorem Chg.fin {w W : World} {p : Nat} {B : List Nat} (h : Chg (p :: B) w W) (hB : ∀ b ∈ B, w.heap.size ≤ b) : Chg [p] w W :=
  ⟨h.os, h.tape, h.output, h.size, fun k hk hn => h.block k hk (by
    intro hm
    rcases List.mem_cons.1 hm with rfl | hm
    · simp at hn
    · have := hB k hm; omega)⟩
theorem Chg.finE {w W : World} {B : List Nat} (h : Chg B w W) (hB : ∀ b ∈ B, w.heap.size ≤ b) : Ext w W := Ext.of_below (h.below (Nat.le_refl _) hB)
/-- A number of a literal list at a place that was drawn. -/
theorem arr_at {w : World} {S : Nat} {T : TypeId} {fr : Nat × Nat} {xs : List Int} {i : Nat} (h : w.heap[S]? = some (.cells (xs.map (fun n => Value.int .i64 n)).toArray T fr)) (hi : i < xs.length) : ∃ y ∈ xs, w.cell? ⟨S, i, none⟩ = some (.int .i64 y) := by
  refine ⟨xs[i], List.getElem_mem hi, (cell_blk h i).trans ?_⟩
  simp [List.getElem?_eq_getElem hi]
set_option maxRecDepth 100000 in
set_option maxHeartbeats 4000000 in
theorem l20BadWalker_u (lo p Q : Nat) (x : Wlk) (w : World) (h : Rdr lo p Q w) (hQ : Q ≤ 99000) :
    Calls Try.prog 90 #[.pointer (some ⟨p, 0, none⟩), .agg #[.int .i64 x.id, .int .i64 x.at_, .int .i64 x.coins, .int .i64 x.seq, .int .i64 x.last]] w fun e w' => ∃ y : Wlk, e = .returned (.agg #[.int .i64 y.id, .int .i64 y.at_, .int .i64 y.coins, .int .i64 y.seq, .int .i64 y.last]) ∧ (WlkIn x → WlkIn y) ∧ Rdr lo p (Q + 2) w' ∧ Chg [p] w w' := by
  have lP := h.lt
  have hlo := h.lo
  have HR := hid h
  clear h
  go_enter Try.func90, Try.ntmps90
  try go_wp2_with (first
      | fail
      | (
        with_reducible refine wp_region_mix (by kernel_rfl) (by decide +kernel) ?_
        repeat (first
          | (refine mix_pure rfl ?_; (first | go_big_quiet_skip | (go_big_quiet_want; go_big_quiet_op; go_big_quiet_on)); refine wpQuiet_nil ?_)
          | (refine mix_skip (by rfl) ?_; (try simp only [Act.put, List.setIfInBounds_toArray, List.set_cons_zero, List.set_cons_succ]))
          | (refine mix_mk rfl (by rfl) (fun K hK => ?_); (first | (go_simp; first | skip)); (show K _ _); refine hK _ _ (show Ext _ _ from (by ((try simp only [ext_drew]); (try simp only [ext_ext]); repeat (first | exact Ext.refl _ | with_reducible apply Ext.add | with_reducible apply Ext.dr | apply Ext.alloc | apply Ext.ext | apply Ext.drew | refine Ext.trans ?_ (by assumption))))) ?_; clear hK K; (try simp only [Act.put, List.setIfInBounds_toArray, List.set_cons_zero, List.set_cons_succ])))
        refine mix_nil ?_)
      | (
        with_reducible refine wp_region_ext (by kernel_rfl) (by kernel_rfl) ?_
        repeat (first | go_big_quiet_skip | (go_big_quiet_want; go_big_quiet_op; first | go_big_quiet_on | (apply Exists.intro; refine ⟨fun _ => ?_, ?_⟩; (fail); (try rw [h1]); (try rw [h2]); (try rw [h3]); (try rw [h4]); (try rw [p1]); (try rw [p2]); (try rw [p3]); (try rw [p4]); (try rw [r1]); (try rw [r2]); (try rw [r3]); (try rw [r4]); (try rw [r5]); (try rw [r6]); (try rw [q3]); (try rw [q4]); (try rw [hp]); (try rw [hq]); go_big_quiet_on)))
        refine wpQuiet_nil ?_
        rintro _ ⟨tq, rfl⟩))
  refine calls_gen fun X hX => ?_
  obtain ⟨XB, hXB⟩ : ∃ XB, w.heap.size = XB := ⟨_, rfl⟩
  obtain ⟨R, hR⟩ : ∃ R, w.heap.size + 1 = R := ⟨_, rfl⟩
  obtain ⟨S, hS⟩ : ∃ S, w.heap.size + 1 + 1 = S := ⟨_, rfl⟩
  have EX : Ext w X := by rw [hX]; ((try simp only [ext_drew]); (try simp only [ext_ext]); repeat (first | exact Ext.refl _ | with_reducible apply Ext.add | with_reducible apply Ext.dr | apply Ext.alloc | apply Ext.ext | apply Ext.drew | refine Ext.trans ?_ (by assumption)))
  have bx : X.heap[XB]? = some (.cells #[.int .i64 x.id, .int .i64 x.at_, .int .i64 x.coins, .int .i64 x.seq, .int .i64 x.last] 52 (0, 0)) := by rw [hX, ← hXB]; exact (by repeat (first | exact alloc_last (by (try simp [go_sem]) <;> (try simp [Xt.add]) <;> omega) | with_reducible refine blk_alloc ?_ | with_reducible refine blk_ext ?_ | with_reducible apply blk_drew))
  have br : X.heap[R]? = some (.cells #[.int .i64 0, .int .i64 0, .int .i64 0, .int .i64 0, .int .i64 0] 52 (0, 0)) := by rw [hX, ← hR]; exact (by repeat (first | exact alloc_last (by (try simp [go_sem]) <;> (try simp [Xt.add]) <;> omega) | with_reducible refine blk_alloc ?_ | with_reducible refine blk_ext ?_ | with_reducible apply blk_drew))
  have bs : X.heap[S]? = some (.cells #[.int .i64 (-1), .int .i64 10, .int .i64 100, .int .i64 901, .int .i64 64, .int .i64 0] 3 (0, 0)) := by rw [hX, ← hS]; exact (by repeat (first | exact alloc_last (by (try simp [go_sem]) <;> (try simp [Xt.add]) <;> omega) | with_reducible refine blk_alloc ?_ | with_reducible refine blk_ext ?_ | with_reducible apply blk_drew))
  rw [hS, hR, hXB]
  have hXR : XB ≠ R := by omega
  have hRX : R ≠ XB := by omega
  have hXp : XB ≠ p := by omega
  have hRp : R ≠ p := by omega
  have hwX : w.heap.size ≤ XB := by omega
  have hwR : w.heap.size ≤ R := by omega
  have hSX : S ≠ p := by omega
  have HRX := hid (HR.out.of EX)
  have HEX := hid EX
  clear hX EX hXB hR hS
  refine (pick_c lo p Q 6 X HRX.out (by omega) (by omega) (by omega)).mono ?_
  rintro e Y ⟨v, rfl, hv0, hv1, hRY, hCY⟩
  obtain ⟨i, rfl⟩ : ∃ i : Nat, v = (i : Int) := ⟨v.toNat, by omega⟩
  have bxY := (hCY.block XB (lt_blk bx) (by simpa using hXp)).trans bx
  have brY := (hCY.block R (lt_blk br) (by simpa using hRp)).trans br
  have bsY := (hCY.block S (lt_blk bs) (by simpa using hSX)).trans bs
  obtain ⟨y, hyx, hyc⟩ := arr_at (xs := [-1, 10, 100, 901, 64, 0]) (i := i) bsY (by simp; omega)
  have hy : -1 ≤ y ∧ y ≤ 901 := by simp at hyx; omega
  have hC1 : Chg [p] w Y := (Chg.of_ext HEX.out [p]).trans hCY
  have HRY := hid hRY
  have HCY := hid hC1
  have lS := lt_blk bsY
  have zS := frozen_blk bsY i
  have hi6 : (i : Int) < 6 := by omega
  clear bx br bs bsY hRY hCY hC1 HRX HEX hyx
  try go_wp2_with (first
      | fail
      | (
        with_reducible refine wp_region_mix (by kernel_rfl) (by decide +kernel) ?_
        repeat (first
          | (refine mix_pure rfl ?_; (first | go_big_quiet_skip | (go_big_quiet_want; go_big_quiet_op; go_big_quiet_on)); refine wpQuiet_nil ?_)
          | (refine mix_skip (by rfl) ?_; (try simp only [Act.put, List.setIfInBounds_toArray, List.set_cons_zero, List.set_cons_succ]))
          | (refine mix_mk rfl (by rfl) (fun K hK => ?_); (first | (go_simp; first | skip)); (show K _ _); refine hK _ _ (show Ext _ _ from (by ((try simp only [ext_drew]); (try simp only [ext_ext]); repeat (first | exact Ext.refl _ | with_reducible apply Ext.add | with_reducible apply Ext.dr | apply Ext.alloc | apply Ext.ext | apply Ext.drew | refine Ext.trans ?_ (by assumption))))) ?_; clear hK K; (try simp only [Act.put, List.setIfInBounds_toArray, List.set_cons_zero, List.set_cons_succ])))
        refine mix_nil ?_)
      | (
        with_reducible refine wp_region_ext (by kernel_rfl) (by kernel_rfl) ?_
        repeat (first | go_big_quiet_skip | (go_big_quiet_want; go_big_quiet_op; first | go_big_quiet_on | (apply Exists.intro; refine ⟨fun _ => ?_, ?_⟩; (fail); (try rw [h1]); (try rw [h2]); (try rw [h3]); (try rw [h4]); (try rw [p1]); (try rw [p2]); (try rw [p3]); (try rw [p4]); (try rw [r1]); (try rw [r2]); (try rw [r3]); (try rw [r4]); (try rw [r5]); (try rw [r6]); (try rw [q3]); (try rw [q4]); (try rw [hp]); (try rw [hq]); go_big_quiet_on)))
        refine wpQuiet_nil ?_
        rintro _ ⟨tq, rfl⟩))
  refine calls_gen fun X hX => ?_
  have EX : Ext Y X := by rw [hX]; ((try simp only [ext_drew]); (try simp only [ext_ext]); repeat (first | exact Ext.refl _ | with_reducible apply Ext.add | with_reducible apply Ext.dr | apply Ext.alloc | apply Ext.ext | apply Ext.drew | refine Ext.trans ?_ (by assumption)))
  have bx := (EX.block (lt_blk bxY)).trans bxY
  have br := (EX.block (lt_blk brY)).trans brY
  have HRX := hid (HRY.out.of EX)
  have HCX := hid (HCY.out.trans (Chg.of_ext EX [p]))
  clear hX EX bxY brY HRY HCY lS zS hyc
  refine (pick_c lo p (Q + 1) 5 X HRX.out (by omega) (by omega) (by omega)).mono ?_
  rintro e Z ⟨v, rfl, hv0', hv1', hRZ, hCZ⟩
  have bxZ := (hCZ.block XB (lt_blk bx) (by simpa using hXp)).trans bx
  have brZ := (hCZ.block R (lt_blk br) (by simpa using hRp)).trans br
  have HRZ := hid hRZ
  have HCZ := hid (HCX.out.trans hCZ)
  clear bx br hRZ hCZ HRX HCX
  have cx0 : Z.cell? ⟨XB, 0, none⟩ = some (.int .i64 x.id) := (cell_blk bxZ 0).trans rfl
  have cx1 : Z.cell? ⟨XB, 1, none⟩ = some (.int .i64 x.at_) := (cell_blk bxZ 1).trans rfl
  have cx2 : Z.cell? ⟨XB, 2, none⟩ = some (.int .i64 x.coins) := (cell_blk bxZ 2).trans rfl
  have cx3 : Z.cell? ⟨XB, 3, none⟩ = some (.int .i64 x.seq) := (cell_blk bxZ 3).trans rfl
  have cx4 : Z.cell? ⟨XB, 4, none⟩ = some (.int .i64 x.last) := (cell_blk bxZ 4).trans rfl
  have zcx0 := frozen_blk bxZ 0
  have zcx1 := frozen_blk bxZ 1
  have zcx2 := frozen_blk bxZ 2
  have zcx3 := frozen_blk bxZ 3
  have zcx4 := frozen_blk bxZ 4
  have lx := lt_blk bxZ
  have lr := lt_blk brZ
  have cr0 : Z.cell? ⟨R, 0, none⟩ = some (.int .i64 0) := (cell_blk brZ 0).trans rfl
  have cr1 : Z.cell? ⟨R, 1, none⟩ = some (.int .i64 0) := (cell_blk brZ 1).trans rfl
  have cr2 : Z.cell? ⟨R, 2, none⟩ = some (.int .i64 0) := (cell_blk brZ 2).trans rfl
  have cr3 : Z.cell? ⟨R, 3, none⟩ = some (.int .i64 0) := (cell_blk brZ 3).trans rfl
  have cr4 : Z.cell? ⟨R, 4, none⟩ = some (.int .i64 0) := (cell_blk brZ 4).trans rfl
  have zr0 := frozen_blk brZ 0
  have zr1 := frozen_blk brZ 1
  have zr2 := frozen_blk brZ 2
  have zr3 := frozen_blk brZ 3
  have zr4 := frozen_blk brZ 4
  clear bxZ brZ
  have hv5 : v = 0 ∨ v = 1 ∨ v = 2 ∨ v = 3 ∨ v = 4 := by omega
  clear hv0' hv1'
  rcases hv5 with rfl | rfl | rfl | rfl | rfl
  ·
    try go_wp2_with (first
        | fail
        | (
          with_reducible refine wp_region_mix (by kernel_rfl) (by decide +kernel) ?_
          repeat (first
            | (refine mix_pure rfl ?_; (first | go_big_quiet_skip | (go_big_quiet_want; go_big_quiet_op; go_big_quiet_on)); refine wpQuiet_nil ?_)
            | (refine mix_skip (by rfl) ?_; (try simp only [Act.put, List.setIfInBounds_toArray, List.set_cons_zero, List.set_cons_succ]))
            | (refine mix_mk rfl (by rfl) (fun K hK => ?_); (first | (go_simp; first | skip)); (show K _ _); refine hK _ _ (show Ext _ _ from (by ((try simp only [ext_drew]); (try simp only [ext_ext]); repeat (first | exact Ext.refl _ | with_reducible apply Ext.add | with_reducible apply Ext.dr | apply Ext.alloc | apply Ext.ext | apply Ext.drew | refine Ext.trans ?_ (by assumption))))) ?_; clear hK K; (try simp only [Act.put, List.setIfInBounds_toArray, List.set_cons_zero, List.set_cons_succ])))
          refine mix_nil ?_)
        | (
          with_reducible refine wp_region_ext (by kernel_rfl) (by kernel_rfl) ?_
          repeat (first | go_big_quiet_skip | (go_big_quiet_want; go_big_quiet_op; first | go_big_quiet_on | (apply Exists.intro; refine ⟨fun _ => ?_, ?_⟩; (fail); (try rw [h1]); (try rw [h2]); (try rw [h3]); (try rw [h4]); (try rw [p1]); (try rw [p2]); (try rw [p3]); (try rw [p4]); (try rw [r1]); (try rw [r2]); (try rw [r3]); (try rw [r4]); (try rw [r5]); (try rw [r6]); (try rw [q3]); (try rw [q4]); (try rw [hp]); (try rw [hq]); go_big_quiet_on)))
          refine wpQuiet_nil ?_
          rintro _ ⟨tq, rfl⟩))
    refine bodyPost_ret (v := .agg #[.int .i64 (({ x with id := y })).id, .int .i64 (({ x with id := y })).at_, .int .i64 (({ x with id := y })).coins, .int .i64 (({ x with id := y })).seq, .int .i64 (({ x with id := y })).last]) (by simp [results, Try.results90, go_sem, cx0, cx1, cx2, cx3, cx4, cr0, cr1, cr2, cr3, cr4, lx, lr, hXR, hRX]) rfl ?_
    exact ⟨{ x with id := y }, rfl, fun hx => by simp only [WlkIn] at hx ⊢; omega, HRZ.out.chg (B := [XB, R]) (by repeat (first | with_reducible exact Chg.refl _ _ | with_reducible apply Chg.drew | (with_reducible refine Chg.extR ?_ (by simp)) | (with_reducible refine Chg.set ?_ (by simp) _) | with_reducible apply Chg.alloc | with_reducible apply Chg.ext | with_reducible refine Chg.trans ?_ (Hid.out (by assumption)))) (by simp; omega) (Nat.le_refl _), Chg.fin (B := [XB, R]) ((HCZ.out.mono (by simp)).trans (by repeat (first | with_reducible exact Chg.refl _ _ | with_reducible apply Chg.drew | (with_reducible refine Chg.extR ?_ (by simp)) | (with_reducible refine Chg.set ?_ (by simp) _) | with_reducible apply Chg.alloc | with_reducible apply Chg.ext | with_reducible refine Chg.trans ?_ (Hid.out (by assumption))))) (by simp; omega)⟩
  ·
    try go_wp2_with (first
        | fail
        | (
          with_reducible refine wp_region_mix (by kernel_rfl) (by decide +kernel) ?_
          repeat (first
            | (refine mix_pure rfl ?_; (first | go_big_quiet_skip | (go_big_quiet_want; go_big_quiet_op; go_big_quiet_on)); refine wpQuiet_nil ?_)
            | (refine mix_skip (by rfl) ?_; (try simp only [Act.put, List.setIfInBounds_toArray, List.set_cons_zero, List.set_cons_succ]))
            | (refine mix_mk rfl (by rfl) (fun K hK => ?_); (first | (go_simp; first | skip)); (show K _ _); refine hK _ _ (show Ext _ _ from (by ((try simp only [ext_drew]); (try simp only [ext_ext]); repeat (first | exact Ext.refl _ | with_reducible apply Ext.add | with_reducible apply Ext.dr | apply Ext.alloc | apply Ext.ext | apply Ext.drew | refine Ext.trans ?_ (by assumption))))) ?_; clear hK K; (try simp only [Act.put, List.setIfInBounds_toArray, List.set_cons_zero, List.set_cons_succ])))
          refine mix_nil ?_)
        | (
          with_reducible refine wp_region_ext (by kernel_rfl) (by kernel_rfl) ?_
          repeat (first | go_big_quiet_skip | (go_big_quiet_want; go_big_quiet_op; first | go_big_quiet_on | (apply Exists.intro; refine ⟨fun _ => ?_, ?_⟩; (fail); (try rw [h1]); (try rw [h2]); (try rw [h3]); (try rw [h4]); (try rw [p1]); (try rw [p2]); (try rw [p3]); (try rw [p4]); (try rw [r1]); (try rw [r2]); (try rw [r3]); (try rw [r4]); (try rw [r5]); (try rw [r6]); (try rw [q3]); (try rw [q4]); (try rw [hp]); (try rw [hq]); go_big_quiet_on)))
          refine wpQuiet_nil ?_
          rintro _ ⟨tq, rfl⟩))
    refine bodyPost_ret (v := .agg #[.int .i64 (({ x with at_ := y })).id, .int .i64 (({ x with at_ := y })).at_, .int .i64 (({ x with at_ := y })).coins, .int .i64 (({ x with at_ := y })).seq, .int .i64 (({ x with at_ := y })).last]) (by simp [results, Try.results90, go_sem, cx0, cx1, cx2, cx3, cx4, cr0, cr1, cr2, cr3, cr4, lx, lr, hXR, hRX]) rfl ?_
    exact ⟨{ x with at_ := y }, rfl, fun hx => by simp only [WlkIn] at hx ⊢; omega, HRZ.out.chg (B := [XB, R]) (by repeat (first | with_reducible exact Chg.refl _ _ | with_reducible apply Chg.drew | (with_reducible refine Chg.extR ?_ (by simp)) | (with_reducible refine Chg.set ?_ (by simp) _) | with_reducible apply Chg.alloc | with_reducible apply Chg.ext | with_reducible refine Chg.trans ?_ (Hid.out (by assumption)))) (by simp; omega) (Nat.le_refl _), Chg.fin (B := [XB, R]) ((HCZ.out.mono (by simp)).trans (by repeat (first | with_reducible exact Chg.refl _ _ | with_reducible apply Chg.drew | (with_reducible refine Chg.extR ?_ (by simp)) | (with_reducible refine Chg.set ?_ (by simp) _) | with_reducible apply Chg.alloc | with_reducible apply Chg.ext | with_reducible refine Chg.trans ?_ (Hid.out (by assumption))))) (by simp; omega)⟩
  ·
    try go_wp2_with (first
        | fail
        | (
          with_reducible refine wp_region_mix (by kernel_rfl) (by decide +kernel) ?_
          repeat (first
            | (refine mix_pure rfl ?_; (first | go_big_quiet_skip | (go_big_quiet_want; go_big_quiet_op; go_big_quiet_on)); refine wpQuiet_nil ?_)
            | (refine mix_skip (by rfl) ?_; (try simp only [Act.put, List.setIfInBounds_toArray, List.set_cons_zero, List.set_cons_succ]))
            | (refine mix_mk rfl (by rfl) (fun K hK => ?_); (first | (go_simp; first | skip)); (show K _ _); refine hK _ _ (show Ext _ _ from (by ((try simp only [ext_drew]); (try simp only [ext_ext]); repeat (first | exact Ext.refl _ | with_reducible apply Ext.add | with_reducible apply Ext.dr | apply Ext.alloc | apply Ext.ext | apply Ext.drew | refine Ext.trans ?_ (by assumption))))) ?_; clear hK K; (try simp only [Act.put, List.setIfInBounds_toArray, List.set_cons_zero, List.set_cons_succ])))
          refine mix_nil ?_)
        | (
          with_reducible refine wp_region_ext (by kernel_rfl) (by kernel_rfl) ?_
          repeat (first | go_big_quiet_skip | (go_big_quiet_want; go_big_quiet_op; first | go_big_quiet_on | (apply Exists.intro; refine ⟨fun _ => ?_, ?_⟩; (fail); (try rw [h1]); (try rw [h2]); (try rw [h3]); (try rw [h4]); (try rw [p1]); (try rw [p2]); (try rw [p3]); (try rw [p4]); (try rw [r1]); (try rw [r2]); (try rw [r3]); (try rw [r4]); (try rw [r5]); (try rw [r6]); (try rw [q3]); (try rw [q4]); (try rw [hp]); (try rw [hq]); go_big_quiet_on)))
          refine wpQuiet_nil ?_
          rintro _ ⟨tq, rfl⟩))
    refine bodyPost_ret (v := .agg #[.int .i64 (({ x with coins := y })).id, .int .i64 (({ x with coins := y })).at_, .int .i64 (({ x with coins := y })).coins, .int .i64 (({ x with coins := y })).seq, .int .i64 (({ x with coins := y })).last]) (by simp [results, Try.results90, go_sem, cx0, cx1, cx2, cx3, cx4, cr0, cr1, cr2, cr3, cr4, lx, lr, hXR, hRX]) rfl ?_
    exact ⟨{ x with coins := y }, rfl, fun hx => by simp only [WlkIn] at hx ⊢; omega, HRZ.out.chg (B := [XB, R]) (by repeat (first | with_reducible exact Chg.refl _ _ | with_reducible apply Chg.drew | (with_reducible refine Chg.extR ?_ (by simp)) | (with_reducible refine Chg.set ?_ (by simp) _) | with_reducible apply Chg.alloc | with_reducible apply Chg.ext | with_reducible refine Chg.trans ?_ (Hid.out (by assumption)))) (by simp; omega) (Nat.le_refl _), Chg.fin (B := [XB, R]) ((HCZ.out.mono (by simp)).trans (by repeat (first | with_reducible exact Chg.refl _ _ | with_reducible apply Chg.drew | (with_reducible refine Chg.extR ?_ (by simp)) | (with_reducible refine Chg.set ?_ (by simp) _) | with_reducible apply Chg.alloc | with_reducible apply Chg.ext | with_reducible refine Chg.trans ?_ (Hid.out (by assumption))))) (by simp; omega)⟩
  ·
    try go_wp2_with (first
        | fail
        | (
          with_reducible refine wp_region_mix (by kernel_rfl) (by decide +kernel) ?_
          repeat (first
            | (refine mix_pure rfl ?_; (first | go_big_quiet_skip | (go_big_quiet_want; go_big_quiet_op; go_big_quiet_on)); refine wpQuiet_nil ?_)
            | (refine mix_skip (by rfl) ?_; (try simp only [Act.put, List.setIfInBounds_toArray, List.set_cons_zero, List.set_cons_succ]))
            | (refine mix_mk rfl (by rfl) (fun K hK => ?_); (first | (go_simp; first | skip)); (show K _ _); refine hK _ _ (show Ext _ _ from (by ((try simp only [ext_drew]); (try simp only [ext_ext]); repeat (first | exact Ext.refl _ | with_reducible apply Ext.add | with_reducible apply Ext.dr | apply Ext.alloc | apply Ext.ext | apply Ext.drew | refine Ext.trans ?_ (by assumption))))) ?_; clear hK K; (try simp only [Act.put, List.setIfInBounds_toArray, List.set_cons_zero, List.set_cons_succ])))
          refine mix_nil ?_)
        | (
          with_reducible refine wp_region_ext (by kernel_rfl) (by kernel_rfl) ?_
          repeat (first | go_big_quiet_skip | (go_big_quiet_want; go_big_quiet_op; first | go_big_quiet_on | (apply Exists.intro; refine ⟨fun _ => ?_, ?_⟩; (fail); (try rw [h1]); (try rw [h2]); (try rw [h3]); (try rw [h4]); (try rw [p1]); (try rw [p2]); (try rw [p3]); (try rw [p4]); (try rw [r1]); (try rw [r2]); (try rw [r3]); (try rw [r4]); (try rw [r5]); (try rw [r6]); (try rw [q3]); (try rw [q4]); (try rw [hp]); (try rw [hq]); go_big_quiet_on)))
          refine wpQuiet_nil ?_
          rintro _ ⟨tq, rfl⟩))
    refine bodyPost_ret (v := .agg #[.int .i64 (({ x with seq := y })).id, .int .i64 (({ x with seq := y })).at_, .int .i64 (({ x with seq := y })).coins, .int .i64 (({ x with seq := y })).seq, .int .i64 (({ x with seq := y })).last]) (by simp [results, Try.results90, go_sem, cx0, cx1, cx2, cx3, cx4, cr0, cr1, cr2, cr3, cr4, lx, lr, hXR, hRX]) rfl ?_
    exact ⟨{ x with seq := y }, rfl, fun hx => by simp only [WlkIn] at hx ⊢; omega, HRZ.out.chg (B := [XB, R]) (by repeat (first | with_reducible exact Chg.refl _ _ | with_reducible apply Chg.drew | (with_reducible refine Chg.extR ?_ (by simp)) | (with_reducible refine Chg.set ?_ (by simp) _) | with_reducible apply Chg.alloc | with_reducible apply Chg.ext | with_reducible refine Chg.trans ?_ (Hid.out (by assumption)))) (by simp; omega) (Nat.le_refl _), Chg.fin (B := [XB, R]) ((HCZ.out.mono (by simp)).trans (by repeat (first | with_reducible exact Chg.refl _ _ | with_reducible apply Chg.drew | (with_reducible refine Chg.extR ?_ (by simp)) | (with_reducible refine Chg.set ?_ (by simp) _) | with_reducible apply Chg.alloc | with_reducible apply Chg.ext | with_reducible refine Chg.trans ?_ (Hid.out (by assumption))))) (by simp; omega)⟩
  ·
    try go_wp2_with (first
        | fail
        | (
          with_reducible refine wp_region_mix (by kernel_rfl) (by decide +kernel) ?_
          repeat (first
            | (refine mix_pure rfl ?_; (first | go_big_quiet_skip | (go_big_quiet_want; go_big_quiet_op; go_big_quiet_on)); refine wpQuiet_nil ?_)
            | (refine mix_skip (by rfl) ?_; (try simp only [Act.put, List.setIfInBounds_toArray, List.set_cons_zero, List.set_cons_succ]))
            | (refine mix_mk rfl (by rfl) (fun K hK => ?_); (first | (go_simp; first | skip)); (show K _ _); refine hK _ _ (show Ext _ _ from (by ((try simp only [ext_drew]); (try simp only [ext_ext]); repeat (first | exact Ext.refl _ | with_reducible apply Ext.add | with_reducible apply Ext.dr | apply Ext.alloc | apply Ext.ext | apply Ext.drew | refine Ext.trans ?_ (by assumption))))) ?_; clear hK K; (try simp only [Act.put, List.setIfInBounds_toArray, List.set_cons_zero, List.set_cons_succ])))
          refine mix_nil ?_)
        | (
          with_reducible refine wp_region_ext (by kernel_rfl) (by kernel_rfl) ?_
          repeat (first | go_big_quiet_skip | (go_big_quiet_want; go_big_quiet_op; first | go_big_quiet_on | (apply Exists.intro; refine ⟨fun _ => ?_, ?_⟩; (fail); (try rw [h1]); (try rw [h2]); (try rw [h3]); (try rw [h4]); (try rw [p1]); (try rw [p2]); (try rw [p3]); (try rw [p4]); (try rw [r1]); (try rw [r2]); (try rw [r3]); (try rw [r4]); (try rw [r5]); (try rw [r6]); (try rw [q3]); (try rw [q4]); (try rw [hp]); (try rw [hq]); go_big_quiet_on)))
          refine wpQuiet_nil ?_
          rintro _ ⟨tq, rfl⟩))
    refine bodyPost_ret (v := .agg #[.int .i64 (({ x with last := y })).id, .int .i64 (({ x with last := y })).at_, .int .i64 (({ x with last := y })).coins, .int .i64 (({ x with last := y })).seq, .int .i64 (({ x with last := y })).last]) (by simp [results, Try.results90, go_sem, cx0, cx1, cx2, cx3, cx4, cr0, cr1, cr2, cr3, cr4, lx, lr, hXR, hRX]) rfl ?_
    exact ⟨{ x with last := y }, rfl, fun hx => by simp only [WlkIn] at hx ⊢; omega, HRZ.out.chg (B := [XB, R]) (by repeat (first | with_reducible exact Chg.refl _ _ | with_reducible apply Chg.drew | (with_reducible refine Chg.extR ?_ (by simp)) | (with_reducible refine Chg.set ?_ (by simp) _) | with_reducible apply Chg.alloc | with_reducible apply Chg.ext | with_reducible refine Chg.trans ?_ (Hid.out (by assumption)))) (by simp; omega) (Nat.le_refl _), Chg.fin (B := [XB, R]) ((HCZ.out.mono (by simp)).trans (by repeat (first | with_reducible exact Chg.refl _ _ | with_reducible apply Chg.drew | (with_reducible refine Chg.extR ?_ (by simp)) | (with_reducible refine Chg.set ?_ (by simp) _) | with_reducible apply Chg.alloc | with_reducible apply Chg.ext | with_reducible refine Chg.trans ?_ (Hid.out (by assumption))))) (by simp; omega)⟩
theorem l20BadWalker_c (lo p Q : Nat) (x : Wlk) (w : World) (h : Rdr lo p Q w) (hQ : Q ≤ 99000) (hx : WlkIn x) :
    Calls Try.prog 90 #[.pointer (some ⟨p, 0, none⟩), .agg #[.int .i64 x.id, .int .i64 x.at_, .int .i64 x.coins, .int .i64 x.seq, .int .i64 x.last]] w fun e w' => ∃ y : Wlk, e = .returned (.agg #[.int .i64 y.id, .int .i64 y.at_, .int .i64 y.coins, .int .i64 y.seq, .int .i64 y.last]) ∧ WlkIn y ∧ Rdr lo p (Q + 2) w' ∧ Chg [p] w w' :=
  (l20BadWalker_u lo p Q x w h hQ).mono fun _ _ ⟨y, h1, h2, h3⟩ => ⟨y, h1, h2 hx, h3⟩
end Go.Proofs.Ytbbpipbemhggdaa
