/- Packed texts: Dx, WlkF, TGst, Ins, Clo, WlkP, Gate, Dl, DrawP, Fe, Dv, GstO, All -/
import Derived.Test.YtbbpipbemhggdaaZG1
import Derived.Lib.Overlaps
import Derived.Lib.AppendZerosOnto
import Derived.Laws.IdiomCopy
import Derived.Laws.NewBlocks
namespace Go.Proofs.Ytbbpipbemhggdaa
open Go.RowKit
set_option linter.unusedSimpArgs false
set_option linter.unusedVariables false

theorem Chg.putBlk {B : List Nat} {a w : World} {R : Nat} {ob : Obj} (h : Chg B a w) (hR : R ∈ B) : Chg B a (Go.Proofs.Ytbbpipbemhggdaa.putBlk w R ob) :=
  h.trans ⟨rfl, rfl, rfl, by simp [Go.Proofs.Ytbbpipbemhggdaa.putBlk], fun k _ hn => putBlk_block w R ob k fun e => hn (e ▸ hR)⟩
theorem Chg.extR {B : List Nat} {a w : World} {R : Nat} {x : Xr} (h : Chg B a w) (hR : R ∈ B) : Chg B a (Go.Proofs.Ytbbpipbemhggdaa.extR w R x) := (h.putBlk hR).ext
/-- Blocks of one's own have changed beside the reader's. -/
theorem Chg.fin {w W : World} {p : Nat} {B : List Nat} (h : Chg (p :: B) w W) (hB : ∀ b ∈ B, w.heap.size ≤ b) : Chg [p] w W :=
  ⟨h.os, h.tape, h.output, h.size, fun k hk hn => h.block k hk (by
    intro hm
    rcases List.mem_cons.1 hm with rfl | hm
    · simp at hn
    · have := hB k hm; omega)⟩
/-- A number of a literal list at a place that was drawn. -/
theorem arr_at {w : World} {S : Nat} {T : TypeId} {fr : Nat × Nat} {xs : List Int} {i : Nat} (h : w.heap[S]? = some (.cells (xs.map (fun n => Value.int .i64 n)).toArray T fr)) (hi : i < xs.length) : ∃ y ∈ xs, w.cell? ⟨S, i, none⟩ = some (.int .i64 y) := by
  refine ⟨xs[i], List.getElem_mem hi, (cell_blk h i).trans ?_⟩
  simp [List.getElem?_eq_getElem hi]
set_option maxRecDepth 100000 in
set_option maxHeartbeats 4000000 in
theorem l20BadWalker_u (lo p Q : Nat) (x : Wlk) (w : World) (h : Rdr lo p Q w) (hQ : Q ≤ 99000) :
    Calls Try.prog 90 #[.pointer (some ⟨p, 0, none⟩), .agg #[.int .i64 x.id, .int .i64 x.at_, .int .i64 x.coins, .int .i64 x.seq, .int .i64 x.last]] w fun e w' => ∃ y : Wlk, e = .returned (.agg #[.int .i64 y.id, .int .i64 y.at_, .int .i64 y.coins, .int .i64 y.seq, .int .i64 y.last]) ∧ (WlkIn x → WlkIn y) ∧ Rdr lo p (Q + 2) w' ∧ Chg [p] w w' := by
  have lP := h.lt
  have hlo := h.lo
  have HR := hid h
  clear h
  go_enter Try.func90, Try.ntmps90
  try go_wp2_with (first
      | fail
      | (
        with_reducible refine wp_region_mix (by kernel_rfl) (by decide +kernel) ?_
        repeat (first
          | (refine mix_pure rfl ?_; (first | go_big_quiet_skip | (go_big_quiet_want; go_big_quiet_op; go_big_quiet_on)); refine wpQuiet_nil ?_)
          | (refine mix_skip (by rfl) ?_; (try simp only [Act.put, List.setIfInBounds_toArray, List.set_cons_zero, List.set_cons_succ]))
          | (refine mix_mk rfl (by rfl) (fun K hK => ?_); (first | (go_simp; first | skip)); (show K _ _); refine hK _ _ (show Ext _ _ from zq0) ?_; clear hK K; (try simp only [Act.put, List.setIfInBounds_toArray, List.set_cons_zero, List.set_cons_succ])))
        refine mix_nil ?_)
      | (
        with_reducible refine wp_region_ext (by kernel_rfl) (by kernel_rfl) ?_
        repeat (first | go_big_quiet_skip | (go_big_quiet_want; go_big_quiet_op; first | go_big_quiet_on | (apply Exists.intro; refine ⟨fun _ => ?_, ?_⟩; (fail); (try rw [h1]); (try rw [h2]); (try rw [h3]); (try rw [h4]); (try rw [p1]); (try rw [p2]); (try rw [p3]); (try rw [p4]); (try rw [r1]); (try rw [r2]); (try rw [r3]); (try rw [r4]); (try rw [r5]); (try rw [r6]); (try rw [q3]); (try rw [q4]); (try rw [hp]); (try rw [hq]); go_big_quiet_on)))
        refine wpQuiet_nil ?_
        rintro _ ⟨tq, rfl⟩))
  refine calls_gen fun X hX => ?_
  obtain ⟨XB, hXB⟩ : ∃ XB, w.heap.size = XB := ⟨_, rfl⟩
  obtain ⟨R, hR⟩ : ∃ R, w.heap.size + 1 = R := ⟨_, rfl⟩
  obtain ⟨S, hS⟩ : ∃ S, w.heap.size + 1 + 1 = S := ⟨_, rfl⟩
  have EX : Ext w X := by rw [hX]; ((try simp only [ext_drew]); (try simp only [ext_ext]); repeat (first | exact Ext.refl _ | with_reducible apply Ext.add | with_reducible apply Ext.dr | apply Ext.alloc | apply Ext.ext | apply Ext.drew | refine Ext.trans ?_ (by assumption)))
  have bx : X.heap[XB]? = some (.cells #[.int .i64 x.id, .int .i64 x.at_, .int .i64 x.coins, .int .i64 x.seq, .int .i64 x.last] 52 (0, 0)) := by rw [hX, ← hXB]; exact zq3
  have br : X.heap[R]? = some (.cells #[.int .i64 0, .int .i64 0, .int .i64 0, .int .i64 0, .int .i64 0] 52 (0, 0)) := by rw [hX, ← hR]; exact zq3
  have bs : X.heap[S]? = some (.cells #[.int .i64 (-1), .int .i64 10, .int .i64 100, .int .i64 901, .int .i64 64, .int .i64 0] 3 (0, 0)) := by rw [hX, ← hS]; exact zq3
  rw [hS, hR, hXB]
  have hXR : XB ≠ R := by omega
  have hRX : R ≠ XB := by omega
  have hXp : XB ≠ p := by omega
  have hRp : R ≠ p := by omega
  have hwX : w.heap.size ≤ XB := by omega
  have hwR : w.heap.size ≤ R := by omega
  have hSX : S ≠ p := by omega
  have HRX := hid (HR.out.of EX)
  have HEX := hid EX
  clear hX EX hXB hR hS
  refine (pick_c lo p Q 6 X HRX.out (by omega) (by omega) (by omega)).mono ?_
  rintro e Y ⟨v, rfl, hv0, hv1, hRY, hCY⟩
  obtain ⟨i, rfl⟩ : ∃ i : Nat, v = (i : Int) := ⟨v.toNat, by omega⟩
  have bxY := (hCY.block XB (lt_blk bx) (by simpa using hXp)).trans bx
  have brY := (hCY.block R (lt_blk br) (by simpa using hRp)).trans br
  have bsY := (hCY.block S (lt_blk bs) (by simpa using hSX)).trans bs
  obtain ⟨y, hyx, hyc⟩ := arr_at (xs := [-1, 10, 100, 901, 64, 0]) (i := i) bsY (by simp; omega)
  have hy : -1 ≤ y ∧ y ≤ 901 := by simp at hyx; omega
  have hC1 : Chg [p] w Y := (Chg.of_ext HEX.out [p]).trans hCY
  have HRY := hid hRY
  have HCY := hid hC1
  have lS := lt_blk bsY
  have zS := frozen_blk bsY i
  have hi6 : (i : Int) < 6 := by omega
  clear bx br bs bsY hRY hCY hC1 HRX HEX hyx
  try go_wp2_with (first
      | fail
      | (
        with_reducible refine wp_region_mix (by kernel_rfl) (by decide +kernel) ?_
        repeat (first
          | (refine mix_pure rfl ?_; (first | go_big_quiet_skip | (go_big_quiet_want; go_big_quiet_op; go_big_quiet_on)); refine wpQuiet_nil ?_)
          | (refine mix_skip (by rfl) ?_; (try simp only [Act.put, List.setIfInBounds_toArray, List.set_cons_zero, List.set_cons_succ]))
          | (refine mix_mk rfl (by rfl) (fun K hK => ?_); (first | (go_simp; first | skip)); (show K _ _); refine hK _ _ (show Ext _ _ from zq0) ?_; clear hK K; (try simp only [Act.put, List.setIfInBounds_toArray, List.set_cons_zero, List.set_cons_succ])))
        refine mix_nil ?_)
      | (
        with_reducible refine wp_region_ext (by kernel_rfl) (by kernel_rfl) ?_
        repeat (first | go_big_quiet_skip | (go_big_quiet_want; go_big_quiet_op; first | go_big_quiet_on | (apply Exists.intro; refine ⟨fun _ => ?_, ?_⟩; (fail); (try rw [h1]); (try rw [h2]); (try rw [h3]); (try rw [h4]); (try rw [p1]); (try rw [p2]); (try rw [p3]); (try rw [p4]); (try rw [r1]); (try rw [r2]); (try rw [r3]); (try rw [r4]); (try rw [r5]); (try rw [r6]); (try rw [q3]); (try rw [q4]); (try rw [hp]); (try rw [hq]); go_big_quiet_on)))
        refine wpQuiet_nil ?_
        rintro _ ⟨tq, rfl⟩))
  refine calls_gen fun X hX => ?_
  have EX : Ext Y X := by rw [hX]; ((try simp only [ext_drew]); (try simp only [ext_ext]); repeat (first | exact Ext.refl _ | with_reducible apply Ext.add | with_reducible apply Ext.dr | apply Ext.alloc | apply Ext.ext | apply Ext.drew | refine Ext.trans ?_ (by assumption)))
  have bx := (EX.block (lt_blk bxY)).trans bxY
  have br := (EX.block (lt_blk brY)).trans brY
  have HRX := hid (HRY.out.of EX)
  have HCX := hid (HCY.out.trans (Chg.of_ext EX [p]))
  clear hX EX bxY brY HRY HCY lS zS hyc
  refine (pick_c lo p (Q + 1) 5 X HRX.out (by omega) (by omega) (by omega)).mono ?_
  rintro e Z ⟨v, rfl, hv0', hv1', hRZ, hCZ⟩
  have bxZ := (hCZ.block XB (lt_blk bx) (by simpa using hXp)).trans bx
  have brZ := (hCZ.block R (lt_blk br) (by simpa using hRp)).trans br
  have HRZ := hid hRZ
  have HCZ := hid (HCX.out.trans hCZ)
  clear bx br hRZ hCZ HRX HCX
  have cx0 : Z.cell? ⟨XB, 0, none⟩ = some (.int .i64 x.id) := (cell_blk bxZ 0).trans rfl
  have cx1 : Z.cell? ⟨XB, 1, none⟩ = some (.int .i64 x.at_) := (cell_blk bxZ 1).trans rfl
  have cx2 : Z.cell? ⟨XB, 2, none⟩ = some (.int .i64 x.coins) := (cell_blk bxZ 2).trans rfl
  have cx3 : Z.cell? ⟨XB, 3, none⟩ = some (.int .i64 x.seq) := (cell_blk bxZ 3).trans rfl
  have cx4 : Z.cell? ⟨XB, 4, none⟩ = some (.int .i64 x.last) := (cell_blk bxZ 4).trans rfl
  have zcx0 := frozen_blk bxZ 0
  have zcx1 := frozen_blk bxZ 1
  have zcx2 := frozen_blk bxZ 2
  have zcx3 := frozen_blk bxZ 3
  have zcx4 := frozen_blk bxZ 4
  have lx := lt_blk bxZ
  have lr := lt_blk brZ
  have cr0 : Z.cell? ⟨R, 0, none⟩ = some (.int .i64 0) := (cell_blk brZ 0).trans rfl
  have cr1 : Z.cell? ⟨R, 1, none⟩ = some (.int .i64 0) := (cell_blk brZ 1).trans rfl
  have cr2 : Z.cell? ⟨R, 2, none⟩ = some (.int .i64 0) := (cell_blk brZ 2).trans rfl
  have cr3 : Z.cell? ⟨R, 3, none⟩ = some (.int .i64 0) := (cell_blk brZ 3).trans rfl
  have cr4 : Z.cell? ⟨R, 4, none⟩ = some (.int .i64 0) := (cell_blk brZ 4).trans rfl
  have zr0 := frozen_blk brZ 0
  have zr1 := frozen_blk brZ 1
  have zr2 := frozen_blk brZ 2
  have zr3 := frozen_blk brZ 3
  have zr4 := frozen_blk brZ 4
  clear bxZ brZ
  have hv5 : v = 0 ∨ v = 1 ∨ v = 2 ∨ v = 3 ∨ v = 4 := by omega
  clear hv0' hv1'
  rcases hv5 with rfl | rfl | rfl | rfl | rfl
  ·
    try go_wp2_with (first
        | fail
        | (
          with_reducible refine wp_region_mix (by kernel_rfl) (by decide +kernel) ?_
          repeat (first
            | (refine mix_pure rfl ?_; (first | go_big_quiet_skip | (go_big_quiet_want; go_big_quiet_op; go_big_quiet_on)); refine wpQuiet_nil ?_)
            | (refine mix_skip (by rfl) ?_; (try simp only [Act.put, List.setIfInBounds_toArray, List.set_cons_zero, List.set_cons_succ]))
            | (refine mix_mk rfl (by rfl) (fun K hK => ?_); (first | (go_simp; first | skip)); (show K _ _); refine hK _ _ (show Ext _ _ from zq0) ?_; clear hK K; (try simp only [Act.put, List.setIfInBounds_toArray, List.set_cons_zero, List.set_cons_succ])))
          refine mix_nil ?_)
        | (
          with_reducible refine wp_region_ext (by kernel_rfl) (by kernel_rfl) ?_
          repeat (first | go_big_quiet_skip | (go_big_quiet_want; go_big_quiet_op; first | go_big_quiet_on | (apply Exists.intro; refine ⟨fun _ => ?_, ?_⟩; (fail); (try rw [h1]); (try rw [h2]); (try rw [h3]); (try rw [h4]); (try rw [p1]); (try rw [p2]); (try rw [p3]); (try rw [p4]); (try rw [r1]); (try rw [r2]); (try rw [r3]); (try rw [r4]); (try rw [r5]); (try rw [r6]); (try rw [q3]); (try rw [q4]); (try rw [hp]); (try rw [hq]); go_big_quiet_on)))
          refine wpQuiet_nil ?_
          rintro _ ⟨tq, rfl⟩))
    refine bodyPost_ret (v := .agg #[.int .i64 (({ x with id := y })).id, .int .i64 (({ x with id := y })).at_, .int .i64 (({ x with id := y })).coins, .int .i64 (({ x with id := y })).seq, .int .i64 (({ x with id := y })).last]) (by simp [results, Try.results90, go_sem, cx0, cx1, cx2, cx3, cx4, cr0, cr1, cr2, cr3, cr4, lx, lr, hXR, hRX]) rfl ?_
    exact ⟨{ x with id := y }, rfl, fun hx => by simp only [WlkIn] at hx ⊢; omega, HRZ.out.chg (B := [XB, R]) zq2 (by simp; omega) (Nat.le_refl _), Chg.fin (B := [XB, R]) ((HCZ.out.mono (by simp)).trans zq2) (by simp; omega)⟩
  ·
    try go_wp2_with (first
        | fail
        | (
          with_reducible refine wp_region_mix (by kernel_rfl) (by decide +kernel) ?_
          repeat (first
            | (refine mix_pure rfl ?_; (first | go_big_quiet_skip | (go_big_quiet_want; go_big_quiet_op; go_big_quiet_on)); refine wpQuiet_nil ?_)
            | (refine mix_skip (by rfl) ?_; (try simp only [Act.put, List.setIfInBounds_toArray, List.set_cons_zero, List.set_cons_succ]))
            | (refine mix_mk rfl (by rfl) (fun K hK => ?_); (first | (go_simp; first | skip)); (show K _ _); refine hK _ _ (show Ext _ _ from zq0) ?_; clear hK K; (try simp only [Act.put, List.setIfInBounds_toArray, List.set_cons_zero, List.set_cons_succ])))
          refine mix_nil ?_)
        | (
          with_reducible refine wp_region_ext (by kernel_rfl) (by kernel_rfl) ?_
          repeat (first | go_big_quiet_skip | (go_big_quiet_want; go_big_quiet_op; first | go_big_quiet_on | (apply Exists.intro; refine ⟨fun _ => ?_, ?_⟩; (fail); (try rw [h1]); (try rw [h2]); (try rw [h3]); (try rw [h4]); (try rw [p1]); (try rw [p2]); (try rw [p3]); (try rw [p4]); (try rw [r1]); (try rw [r2]); (try rw [r3]); (try rw [r4]); (try rw [r5]); (try rw [r6]); (try rw [q3]); (try rw [q4]); (try rw [hp]); (try rw [hq]); go_big_quiet_on)))
          refine wpQuiet_nil ?_
          rintro _ ⟨tq, rfl⟩))
    refine bodyPost_ret (v := .agg #[.int .i64 (({ x with at_ := y })).id, .int .i64 (({ x with at_ := y })).at_, .int .i64 (({ x with at_ := y })).coins, .int .i64 (({ x with at_ := y })).seq, .int .i64 (({ x with at_ := y })).last]) (by simp [results, Try.results90, go_sem, cx0, cx1, cx2, cx3, cx4, cr0, cr1, cr2, cr3, cr4, lx, lr, hXR, hRX]) rfl ?_
    exact ⟨{ x with at_ := y }, rfl, fun hx => by simp only [WlkIn] at hx ⊢; omega, HRZ.out.chg (B := [XB, R]) zq2 (by simp; omega) (Nat.le_refl _), Chg.fin (B := [XB, R]) ((HCZ.out.mono (by simp)).trans zq2) (by simp; omega)⟩
  ·
    try go_wp2_with (first
        | fail
        | (
          with_reducible refine wp_region_mix (by kernel_rfl) (by decide +kernel) ?_
          repeat (first
            | (refine mix_pure rfl ?_; (first | go_big_quiet_skip | (go_big_quiet_want; go_big_quiet_op; go_big_quiet_on)); refine wpQuiet_nil ?_)
            | (refine mix_skip (by rfl) ?_; (try simp only [Act.put, List.setIfInBounds_toArray, List.set_cons_zero, List.set_cons_succ]))
            | (refine mix_mk rfl (by rfl) (fun K hK => ?_); (first | (go_simp; first | skip)); (show K _ _); refine hK _ _ (show Ext _ _ from zq0) ?_; clear hK K; (try simp only [Act.put, List.setIfInBounds_toArray, List.set_cons_zero, List.set_cons_succ])))
          refine mix_nil ?_)
        | (
          with_reducible refine wp_region_ext (by kernel_rfl) (by kernel_rfl) ?_
          repeat (first | go_big_quiet_skip | (go_big_quiet_want; go_big_quiet_op; first | go_big_quiet_on | (apply Exists.intro; refine ⟨fun _ => ?_, ?_⟩; (fail); (try rw [h1]); (try rw [h2]); (try rw [h3]); (try rw [h4]); (try rw [p1]); (try rw [p2]); (try rw [p3]); (try rw [p4]); (try rw [r1]); (try rw [r2]); (try rw [r3]); (try rw [r4]); (try rw [r5]); (try rw [r6]); (try rw [q3]); (try rw [q4]); (try rw [hp]); (try rw [hq]); go_big_quiet_on)))
          refine wpQuiet_nil ?_
          rintro _ ⟨tq, rfl⟩))
    refine bodyPost_ret (v := .agg #[.int .i64 (({ x with coins := y })).id, .int .i64 (({ x with coins := y })).at_, .int .i64 (({ x with coins := y })).coins, .int .i64 (({ x with coins := y })).seq, .int .i64 (({ x with coins := y })).last]) (by simp [results, Try.results90, go_sem, cx0, cx1, cx2, cx3, cx4, cr0, cr1, cr2, cr3, cr4, lx, lr, hXR, hRX]) rfl ?_
    exact ⟨{ x with coins := y }, rfl, fun hx => by simp only [WlkIn] at hx ⊢; omega, HRZ.out.chg (B := [XB, R]) zq2 (by simp; omega) (Nat.le_refl _), Chg.fin (B := [XB, R]) ((HCZ.out.mono (by simp)).trans zq2) (by simp; omega)⟩
  ·
    try go_wp2_with (first
        | fail
        | (
          with_reducible refine wp_region_mix (by kernel_rfl) (by decide +kernel) ?_
          repeat (first
            | (refine mix_pure rfl ?_; (first | go_big_quiet_skip | (go_big_quiet_want; go_big_quiet_op; go_big_quiet_on)); refine wpQuiet_nil ?_)
            | (refine mix_skip (by rfl) ?_; (try simp only [Act.put, List.setIfInBounds_toArray, List.set_cons_zero, List.set_cons_succ]))
            | (refine mix_mk rfl (by rfl) (fun K hK => ?_); (first | (go_simp; first | skip)); (show K _ _); refine hK _ _ (show Ext _ _ from zq0) ?_; clear hK K; (try simp only [Act.put, List.setIfInBounds_toArray, List.set_cons_zero, List.set_cons_succ])))
          refine mix_nil ?_)
        | (
          with_reducible refine wp_region_ext (by kernel_rfl) (by kernel_rfl) ?_
          repeat (first | go_big_quiet_skip | (go_big_quiet_want; go_big_quiet_op; first | go_big_quiet_on | (apply Exists.intro; refine ⟨fun _ => ?_, ?_⟩; (fail); (try rw [h1]); (try rw [h2]); (try rw [h3]); (try rw [h4]); (try rw [p1]); (try rw [p2]); (try rw [p3]); (try rw [p4]); (try rw [r1]); (try rw [r2]); (try rw [r3]); (try rw [r4]); (try rw [r5]); (try rw [r6]); (try rw [q3]); (try rw [q4]); (try rw [hp]); (try rw [hq]); go_big_quiet_on)))
          refine wpQuiet_nil ?_
          rintro _ ⟨tq, rfl⟩))
    refine bodyPost_ret (v := .agg #[.int .i64 (({ x with seq := y })).id, .int .i64 (({ x with seq := y })).at_, .int .i64 (({ x with seq := y })).coins, .int .i64 (({ x with seq := y })).seq, .int .i64 (({ x with seq := y })).last]) (by simp [results, Try.results90, go_sem, cx0, cx1, cx2, cx3, cx4, cr0, cr1, cr2, cr3, cr4, lx, lr, hXR, hRX]) rfl ?_
    exact ⟨{ x with seq := y }, rfl, fun hx => by simp only [WlkIn] at hx ⊢; omega, HRZ.out.chg (B := [XB, R]) zq2 (by simp; omega) (Nat.le_refl _), Chg.fin (B := [XB, R]) ((HCZ.out.mono (by simp)).trans zq2) (by simp; omega)⟩
  ·
    try go_wp2_with (first
        | fail
        | (
          with_reducible refine wp_region_mix (by kernel_rfl) (by decide +kernel) ?_
          repeat (first
            | (refine mix_pure rfl ?_; (first | go_big_quiet_skip | (go_big_quiet_want; go_big_quiet_op; go_big_quiet_on)); refine wpQuiet_nil ?_)
            | (refine mix_skip (by rfl) ?_; (try simp only [Act.put, List.setIfInBounds_toArray, List.set_cons_zero, List.set_cons_succ]))
            | (refine mix_mk rfl (by rfl) (fun K hK => ?_); (first | (go_simp; first | skip)); (show K _ _); refine hK _ _ (show Ext _ _ from zq0) ?_; clear hK K; (try simp only [Act.put, List.setIfInBounds_toArray, List.set_cons_zero, List.set_cons_succ])))
          refine mix_nil ?_)
        | (
          with_reducible refine wp_region_ext (by kernel_rfl) (by kernel_rfl) ?_
          repeat (first | go_big_quiet_skip | (go_big_quiet_want; go_big_quiet_op; first | go_big_quiet_on | (apply Exists.intro; refine ⟨fun _ => ?_, ?_⟩; (fail); (try rw [h1]); (try rw [h2]); (try rw [h3]); (try rw [h4]); (try rw [p1]); (try rw [p2]); (try rw [p3]); (try rw [p4]); (try rw [r1]); (try rw [r2]); (try rw [r3]); (try rw [r4]); (try rw [r5]); (try rw [r6]); (try rw [q3]); (try rw [q4]); (try rw [hp]); (try rw [hq]); go_big_quiet_on)))
          refine wpQuiet_nil ?_
          rintro _ ⟨tq, rfl⟩))
    refine bodyPost_ret (v := .agg #[.int .i64 (({ x with last := y })).id, .int .i64 (({ x with last := y })).at_, .int .i64 (({ x with last := y })).coins, .int .i64 (({ x with last := y })).seq, .int .i64 (({ x with last := y })).last]) (by simp [results, Try.results90, go_sem, cx0, cx1, cx2, cx3, cx4, cr0, cr1, cr2, cr3, cr4, lx, lr, hXR, hRX]) rfl ?_
    exact ⟨{ x with last := y }, rfl, fun hx => by simp only [WlkIn] at hx ⊢; omega, HRZ.out.chg (B := [XB, R]) zq2 (by simp; omega) (Nat.le_refl _), Chg.fin (B := [XB, R]) ((HCZ.out.mono (by simp)).trans zq2) (by simp; omega)⟩
end Go.Proofs.Ytbbpipbemhggdaa

namespace Go.Proofs.Ytbbpipbemhggdaa
open Go.RowKit

theorem take_step {α : Type} {p : α → Bool} {xs : List α} {k : Nat} {x : α} (h : ∀ y ∈ xs.take k, p y = false) (hx : xs[k]? = some x) (hp : p x = false) : ∀ y ∈ xs.take (k + 1), p y = false := by
  rw [List.take_add_one, hx]
  intro y hy
  rcases List.mem_append.1 hy with h' | h'
  · exact h y h'
  · obtain rfl : y = x := by simpa using h'
    exact hp
theorem take_end {α : Type} {p : α → Bool} {xs : List α} {k : Nat} (h : ∀ y ∈ xs.take k, p y = false) (hk : xs.length ≤ k) : ∀ y ∈ xs, p y = false := by
  rwa [List.take_of_length_le hk] at h

end Go.Proofs.Ytbbpipbemhggdaa

namespace Go.Proofs.Ytbbpipbemhggdaa
open Go.RowKit

theorem wpList_app_Gst {ops : Array Oper} {rest : List Oper} {o : Oper} {a : Act} {Q : Exit → Act → World → Prop} {w0 w : World} (hgd : o.guard = none) (s x : Operand) (ho : o.op = .call { callee := .builtin .append, args := #[s, x], argTypes := #[69, 69] })
    {v : Value} {xs : List Gst} (hs : a.eval s = v) (hE : Ext w0 w) (hown : w.ownsRow w0.heap.size 71 7 v xs.length (xs.flatMap Gst.cells)) (y : Gst) {b c : Nat} {T' : TypeId} (hx : a.eval x = .slice (some ⟨b, 0, none⟩) 1 c) (hy : w.heap[b]? = some (.cells y.cells.toArray T' (0, 0))) (hn : xs.length ≤ 4194304)
    (h : ∀ v' t', (ext w0 t').ownsRow w0.heap.size 71 7 v' (xs ++ [y]).length ((xs ++ [y]).flatMap Gst.cells) → wpList Try.prog ops Q rest (a.put o.dst v') (ext w0 t')) : wpList Try.prog ops Q (o :: rest) a w :=
  wpList_app (cells := Gst.cells) (k := 7) (bytes := 56) (z := .agg #[.int .i64 0, .int .i64 0, .int .i64 0, .int .i64 0, .int .i64 0, .int .i64 0, .int .i64 0]) Try.underlying69 (by kernel_rfl) rfl (by decide) (by decide) (fun _ => rfl) (fun x u hu => by simp only [Gst.cells, List.mem_cons, List.not_mem_nil, or_false] at hu; rcases hu with rfl | rfl | rfl | rfl | rfl | rfl | rfl <;> rfl) hgd s x ho hs hE hown y hx hy hn h

theorem wpList_apps_Gst {ops : Array Oper} {rest : List Oper} {o : Oper} {a : Act} {Q : Exit → Act → World → Prop} {w0 w : World} (hgd : o.guard = none) (s x : Operand) (ho : o.op = .call { callee := .builtin .append, args := #[s, x], argTypes := #[69, 69] })
    {v : Value} {xs : List Gst} (hs : a.eval s = v) (hE : Ext w0 w) (hown : w.ownsRow w0.heap.size 71 7 v xs.length (xs.flatMap Gst.cells)) (ys : List Gst) {ad : Option Addr} {m c : Nat} (hx : a.eval x = .slice ad m c) (hy : Re w (.sl sGst) [.slice ad m c] (.l (ys.map Gst.dat))) (hn : xs.length + m ≤ 4194304)
    (h : ∀ v' t', (ext w0 t').ownsRow w0.heap.size 71 7 v' (xs ++ ys).length ((xs ++ ys).flatMap Gst.cells) → wpList Try.prog ops Q rest (a.put o.dst v') (ext w0 t')) : wpList Try.prog ops Q (o :: rest) a w :=
  wpList_apps (cells := Gst.cells) (k := 7) (bytes := 56) (z := .agg #[.int .i64 0, .int .i64 0, .int .i64 0, .int .i64 0, .int .i64 0, .int .i64 0, .int .i64 0]) Try.underlying69 (by kernel_rfl) rfl (by decide) (by decide) rfl (fun _ => rfl) (fun _ _ _ _ h => rd_Gst h) (fun _ _ h => Gst.dat_inj h) (fun x u hu => by simp only [Gst.cells, List.mem_cons, List.not_mem_nil, or_false] at hu; rcases hu with rfl | rfl | rfl | rfl | rfl | rfl | rfl <;> rfl) hgd s x ho hs hE hown ys hx hy hn h

end Go.Proofs.Ytbbpipbemhggdaa

namespace Go.Proofs.Ytbbpipbemhggdaa
open Go.RowKit
set_option linter.unusedSimpArgs false
set_option linter.unusedVariables false

/-- A list with an element put in at a place. -/
def insAt {α : Type} (xs : List α) (i : Nat) (y : α) : List α := xs.take i ++ y :: xs.drop i
theorem insAt_len {α : Type} (xs : List α) (i : Nat) (y : α) (h : i ≤ xs.length) : (insAt xs i y).length = xs.length + 1 := by
  simp [insAt]; omega
theorem insAt_end {α : Type} (xs : List α) (y : α) : insAt xs xs.length y = xs ++ [y] := by simp [insAt]
theorem flatMap_take {α : Type} {cells : α → List Value} {k : Nat} (hcl : ∀ x, (cells x).length = k) : ∀ (xs : List α) (i : Nat), i ≤ xs.length → (xs.take i).flatMap cells = (xs.flatMap cells).take (i * k)
  | xs, 0, _ => by simp
  | [], i + 1, h => by simp at h
  | x :: xs, i + 1, h => by
    simp only [List.take_succ_cons, List.flatMap_cons]
    rw [flatMap_take hcl xs i (by simpa using h), List.take_append, hcl, List.take_of_length_le (l := cells x) (by rw [hcl, Nat.add_mul]; omega), show (i + 1) * k - k = i * k by rw [Nat.add_mul]; omega]
theorem flatMap_drop {α : Type} {cells : α → List Value} {k : Nat} (hcl : ∀ x, (cells x).length = k) : ∀ (xs : List α) (i : Nat), i ≤ xs.length → (xs.drop i).flatMap cells = (xs.flatMap cells).drop (i * k)
  | xs, 0, _ => by simp
  | [], i + 1, h => by simp at h
  | x :: xs, i + 1, h => by
    simp only [List.drop_succ_cons, List.flatMap_cons]
    rw [flatMap_drop hcl xs i (by simpa using h), List.drop_append, hcl, List.drop_of_length_le (l := cells x) (by rw [hcl, Nat.add_mul]; omega), show (i + 1) * k - k = i * k by rw [Nat.add_mul]; omega]; rfl
theorem flatMap_len {α : Type} {cells : α → List Value} {k : Nat} (hcl : ∀ x, (cells x).length = k) (xs : List α) : (xs.flatMap cells).length = xs.length * k := by
  rw [List.length_flatMap, List.map_congr_left (g := fun _ => k) (fun x _ => hcl x), List.map_const', List.sum_replicate_nat]
theorem insAt_flat {α : Type} {cells : α → List Value} {k : Nat} (hcl : ∀ x, (cells x).length = k) (xs : List α) (i : Nat) (y : α) (h : i ≤ xs.length) :
    (insAt xs i y).flatMap cells = (xs.flatMap cells).take (i * k) ++ (cells y ++ (xs.flatMap cells).drop (i * k)) := by
  simp only [insAt, List.flatMap_append, List.flatMap_cons]
  rw [flatMap_take hcl xs i h, flatMap_drop hcl xs i h]

theorem setCells_row (w : World) (b : Nat) : ∀ (vs : List Value) (o : Nat) (w : World), w.setCells b o vs = setRow w b o vs
  | [], _, _ => rfl
  | v :: vs, o, w => by
    show (w.setCell ⟨b, o, none⟩ v).setCells b (o + 1) vs = setRow (w.setCell ⟨b, o, none⟩ v) b (o + 1) vs
    exact setCells_row w b vs (o + 1) _
/-- The builtin 'copy' at elements of k cells: all is read before anything is written. -/
theorem run_copy_k {P : Program} (w : World) (dT sT ty elem : TypeId) (b o dLen dCap : Nat) (a : Addr) (sLen sCap k m : Nat) (cs : List Value)
    (hu : P.underlying dT = some (.slice elem)) (hs : (P.info? elem).map (·.size) = some k) (hm : Nat.min sLen dLen = m) (hn : cs.length = m * k)
    (hsrc : ∀ j v, cs[j]? = some v → w.cell? (a.add j) = some v) (hc : ∀ j, j < cs.length → (w.cell? ⟨b, o + j, none⟩).isSome = true) (hf : ∀ j, j < cs.length → w.frozen? ⟨b, o + j, none⟩ = false) (h1 : ∀ v ∈ cs, v.oneCell' = true) :
    (Builtin.copy_ #[dT, sT] ty #[.slice (some ⟨b, o, none⟩) dLen dCap, .slice (some a) sLen sCap]).run P w = .ok (goInt m) (setRow w b o cs) := by
  have hl := run_loadCells_list (P := P) w a cs hsrc
  have hst := run_storeCells_cells (P := P) b o cs 0 w (by simpa using hc) (by simpa using hf) h1
  rw [setCells_row w] at hst
  cases hq : P.info? elem with
  | none => simp [hq] at hs
  | some i =>
    have hi : i.size = k := by simpa [hq] using hs
    rw [hn] at hl
    simp [Builtin.copy_, run_underlying hu, Builtin.lenOf, Builtin.firstCells, sizeOf, typeInfo, hq, hi, hm, hl, hst]
theorem wp_copy_run {P : Program} (w : World) {o : Oper} {a : Act} {K : Act → World → Prop} {Q : Exit → Act → World → Prop} (d s : Operand) (t t' : TypeId)
    (ho : o.op = .call { callee := .builtin .copy, args := #[d, s], argTypes := #[t, t'] }) {v u : Value} (hd : a.eval d = v) (hs : a.eval s = u) {v' : Value} {w' : World}
    (hr : (Builtin.copy_ #[t, t'] o.type #[v, u]).run P w = .ok v' w') (h : K (a.put o.dst v') w') : o.wp P a w K Q := by
  unfold Oper.wp execOp
  simp only [ho, resolve, invoke, builtin, Sem.run_bind, Sem.run_pure, Result.andThen_ok, List.map_toArray, List.map_cons, List.map_nil, hd, hs, hr]
  exact h
theorem wpList_appRZ {α : Type} {cells : α → List Value} {k bytes : Nat} {z : Value} {TS T : TypeId} (hT : Try.prog.underlying TS = some (.slice T)) (hI : (Try.prog.info? T).map (fun i => (i.zero, i.size, i.bytes)) = some (some z, k, bytes)) (hz : z.cells.size = k) (hpos : 0 < k) (hby : bytes ≤ 1024)
    (hcl : ∀ x, (cells x).length = k) (hone : ∀ x, ∀ u ∈ cells x, u.oneCell' = true)
    {ops : Array Oper} {rest : List Oper} {o : Oper} {a : Act} {Q : Exit → Act → World → Prop} {w : World} (hgd : o.guard = none) (base : Nat) (s x : Operand) (ho : o.op = .call { callee := .builtin .append, args := #[s, x], argTypes := #[TS, TS] })
    {v : Value} {xs : List α} (hs : a.eval s = v) (hb : base ≤ w.heap.size) (hown : w.ownsRow base T k v xs.length (xs.flatMap cells)) (y : α) {b c : Nat} {T' : TypeId} (hx : a.eval x = .slice (some ⟨b, 0, none⟩) 1 c) (hy : w.heap[b]? = some (.cells (cells y).toArray T' (0, 0))) (hn : xs.length ≤ 4194304)
    (h : ∀ v' w', w'.ownsRow base T k v' (xs ++ [y]).length ((xs ++ [y]).flatMap cells) → Chg v.ownBlock.toList w w' → wpList Try.prog ops Q rest (a.put o.dst v') w') : wpList Try.prog ops Q (o :: rest) a w :=
  wpList_plain hgd fun _ hK => wp_appRZ hT hI hz hpos hby hcl hone base s x ho hs hb hown y hx hy hn fun v' w' h1 h2 _ => hK _ _ (h v' w' h1 h2)

/-- What the two copies leave, cell by cell. -/
theorem ins_row {L cy : List Value} {arr : Array Value} {N p k : Nat} (hL : L.length = N) (hc : cy.length = k) (hp : p ≤ N) (hs : N + k ≤ arr.size) (hpre : ∀ j, j < N + k → arr[j]? = if j < p then L[j]? else if j < p + k then cy[j - p]? else L[j - k]?) :
    arr.toList.take (N + k) = L.take p ++ (cy ++ L.drop p) := by
  apply List.ext_getElem?
  intro j
  by_cases hj : j < N + k
  · rw [List.getElem?_take, if_pos hj, Array.getElem?_toList, hpre j hj]
    by_cases h1 : j < p
    · rw [if_pos h1, List.getElem?_append_left (by simp; omega), List.getElem?_take, if_pos h1]
    · rw [if_neg h1, List.getElem?_append_right (by simp; omega)]
      have e : (L.take p).length = p := by simp; omega
      rw [e]
      by_cases h2 : j < p + k
      · rw [if_pos h2, List.getElem?_append_left (by omega)]
      · rw [if_neg h2, List.getElem?_append_right (by omega), List.getElem?_drop]
        congr 1; omega
  · rw [List.getElem?_eq_none (by simp; omega), List.getElem?_eq_none (by simp; omega)]
/-- In place: the rest shifted, the element laid in. -/
theorem ins_shift {L cy : List Value} {cur : Array Value} {N p k : Nat} (hL : L.length = N) (hc : cy.length = k) (hp : p ≤ N) (hs : N + k ≤ cur.size) (ht : cur.toList.take N = L) (j : Nat) (hj : j < N + k) :
    (putRow (putRow cur (p + k) (L.drop p)) p cy)[j]? = if j < p then L[j]? else if j < p + k then cy[j - p]? else L[j - k]? := by
  have hd : (L.drop p).length = N - p := by simp [hL]
  rw [putRow_get _ _ _ _ (by rw [putRow_size, hc]; omega), hc]
  by_cases h2 : p ≤ j ∧ j < p + k
  · rw [if_pos h2, if_neg (by omega), if_pos h2.2]
  · rw [if_neg h2, putRow_get _ _ _ _ (by rw [hd]; omega), hd]
    by_cases h1 : j < p
    · rw [if_neg (by omega), if_pos h1, ← ht, List.getElem?_take, if_pos (by omega), Array.getElem?_toList]
    · rw [if_pos (by omega), if_neg h1, if_neg (by omega), List.getElem?_drop]
      congr 1; omega
/-- In a new row. -/
theorem ins_new {L cy : List Value} {cur : Array Value} {N p k : Nat} (hL : L.length = N) (hc : cy.length = k) (hp : p ≤ N) (hs : N + k ≤ cur.size) (ht : ∀ j, j < p → cur[j]? = L[j]?) (j : Nat) (hj : j < N + k) :
    (putRow (putRow cur p cy) (p + k) (L.drop p))[j]? = if j < p then L[j]? else if j < p + k then cy[j - p]? else L[j - k]? := by
  have hd : (L.drop p).length = N - p := by simp [hL]
  rw [putRow_get _ _ _ _ (by rw [putRow_size, hd]; omega), hd]
  by_cases h2 : p + k ≤ j
  · rw [if_pos (by omega), if_neg (by omega), if_neg (by omega), List.getElem?_drop]
    congr 1; omega
  · rw [if_neg (by omega), putRow_get _ _ _ _ (by rw [hc]; omega), hc]
    by_cases h1 : j < p
    · rw [if_neg (by omega), if_pos h1]; exact ht j h1
    · rw [if_pos (by omega), if_neg h1, if_pos (by omega)]

theorem Wlk_one (x : Wlk) : ∀ u ∈ Wlk.cells x, u.oneCell' = true := by
  intro u hu
  simp only [Wlk.cells, List.mem_cons, List.mem_nil_iff, or_false] at hu
  (repeat (first | (rcases hu with rfl | hu; rfl) | (subst hu; rfl)))
set_option maxRecDepth 100000 in
set_option maxHeartbeats 4000000 in
theorem insWlk_room (xs : List Wlk) (y : Wlk) (g cap i vb vc base : Nat) (cur : Array Value) (w : World) (hl : (xs.flatMap Wlk.cells).length = xs.length * 5) (hcap : xs.length < cap) (hcm : cap ≤ 9223372036854775807) (hg : base ≤ g) (hB : w.heap[g]? = some (.cells cur 52 (0, 0))) (hcs : cur.size = cap * 5) (ht : cur.toList.take (xs.length * 5) = xs.flatMap Wlk.cells)
    (hi : i < xs.length) (hy : w.heap[vb]? = some (.cells (Wlk.cells y).toArray 52 (0, 0))) (hvb : vb ≠ g) (hn : xs.length ≤ 1048576) :
    Calls Try.prog 73 #[.slice (some ⟨g, 0, none⟩) xs.length cap, .int .i64 i, .slice (some ⟨vb, 0, none⟩) 1 vc] w fun e w' => ∃ v', e = .returned v' ∧ w'.ownsRow base 52 5 v' (insAt xs i y).length ((insAt xs i y).flatMap Wlk.cells) ∧ Chg [g] w w' := by
  have hcl : ∀ x : Wlk, (Wlk.cells x).length = 5 := fun _ => rfl
  obtain ⟨D, hD⟩ : ∃ D, (xs.flatMap Wlk.cells).drop (i * 5) = D := ⟨_, rfl⟩
  have hDl : D.length = (xs.length - i) * 5 := by rw [← hD, List.length_drop, hl, Nat.sub_mul]
  have hone : ∀ v ∈ xs.flatMap Wlk.cells, v.oneCell' = true := fun v hv => by
    obtain ⟨x, _, hx⟩ := List.mem_flatMap.1 hv
    exact Wlk_one x v hx
  have hsz : ∀ (w : World), (Go.sizeOf 52).run Try.prog w = .ok 5 w := fun w => sizeOf_run (by kernel_rfl) w
  have hszi : (Try.prog.info? 52).map (·.size) = some 5 := by kernel_rfl
  have hov : ∀ lb cb, (callFunc 91 #[.slice (some ⟨vb, 0, none⟩) 1 vc, .slice (some ⟨g, (i + 1) * 5, none⟩) lb cb]).run Try.prog w = .ok (.value (.bool false)) w := fun lb cb => by
    rw [run_callFunc_extern Try.func91 (by kernel_rfl) (by kernel_rfl) (by kernel_rfl) (e := Extern.SlicesOverlaps.overlaps #[50, 50] #[4]) (by kernel_rfl),
      Lib.run_overlaps_apart w 50 4 52 Try.underlying50 5 hsz ⟨vb, 0, none⟩ ⟨g, (i + 1) * 5, none⟩ 1 vc lb cb hvb 52 52 5 cur.size (by simp [World.shape?, hy, Wlk.cells]) (by simp [World.shape?, hB]) (by omega) (frozen_blk hy 0) (frozen_blk hy 5)]
    rfl
  generalize hm : xs.length = n at *
  have HB := hid hB
  have HY := hid hy
  have HT := hid ht
  have HD := hid hD
  have HL := hid hl
  clear hB hy ht hD hl hone hszi
  go_enter Try.func73, Try.ntmps73
  go_wp2_with (simp only [hov])
  have hget : ∀ j u, D[j]? = some u → cur[i * 5 + j]? = some u := fun j u hu => by
    rw [← HD.out, List.getElem?_drop, ← HT.out, List.getElem?_take] at hu
    split at hu
    · simpa using hu
    · cases hu
  have hin : i * 5 + 5 ≤ n * 5 := by omega
  have hc1 := run_copy_k (P := Try.prog) w.drew 50 50 3 52 g ((i + 1) * 5) (n - i) (cap - (i + 1)) ⟨g, i * 5, none⟩ (n + 1 - i) (cap - i) 5 (n - i) D Try.underlying50 (by kernel_rfl)
    (by simp only [Nat.min_def]; split <;> omega) hDl (fun j u hu => by rw [ld_add]; exact (cell_blk (w := w.drew) HB.out _).trans (hget j u hu))
    (fun j hj => by obtain ⟨u, hu⟩ := some_blk (w := w.drew) HB.out ((i + 1) * 5 + j) (by omega); rw [hu]; rfl) (fun j hj => frozen_blk (w := w.drew) HB.out _)
    (fun v hv => by
      rw [← HD.out] at hv
      obtain ⟨x, _, hx⟩ := List.mem_flatMap.1 (List.mem_of_mem_drop hv)
      exact Wlk_one x v hx)
  have HC1 := hid hc1
  clear hc1 hget
  with_reducible refine wp_region_mixR (R := g) (by kernel_rfl) (by decide +kernel) ?_
  repeat (refine mix_pure rfl ?_; (first | go_big_quiet_skip | (go_big_quiet_want; go_big_quiet_op; go_big_quiet_on)); refine wpQuiet_nil ?_)
  refine mix_mk rfl (by rfl) (fun K hK => ?_)
  refine wp_copy_run _ _ _ _ _ rfl rfl rfl HC1.out ?_
  refine hK _ _ (extR_of ?_) ?_
  · exact Chg.setRow (by simp) _ (Chg.refl _ _)
  clear hK K
  refine mix_nil ?_
  obtain ⟨W1, hW1⟩ : ∃ W1, setRow w.drew g ((i + 1) * 5) D = W1 := ⟨_, rfl⟩
  have hb1 : W1.heap[g]? = some (.cells (putRow cur ((i + 1) * 5) D) 52 (0, 0)) := by rw [← hW1]; exact blk_setRow D HB.out
  have hch1 : Chg [g] w W1 := by rw [← hW1]; exact Chg.setRow (by simp) _ (Chg.drew (Chg.refl _ _))
  have hy1 : W1.heap[vb]? = some (.cells (Wlk.cells y).toArray 52 (0, 0)) := (hch1.block vb (lt_blk HY.out) (by simpa using hvb)).trans HY.out
  have hps : (putRow cur ((i + 1) * 5) D).size = cap * 5 := by rw [putRow_size, hcs]
  have hc2 := run_copy_k (P := Try.prog) W1 50 50 3 52 g (i * 5) (n + 1 - i) (cap - i) ⟨vb, 0, none⟩ 1 vc 5 1 (Wlk.cells y) Try.underlying50 (by kernel_rfl)
    (by simp only [Nat.min_def]; split <;> omega) (by rw [hcl, Nat.one_mul]) (fun j u hu => by rw [ld_add, Nat.zero_add, cell_blk hy1]; simpa using hu)
    (fun j hj => by rw [hcl] at hj; obtain ⟨u, hu⟩ := some_blk hb1 (i * 5 + j) (by omega); rw [hu]; rfl) (fun j hj => frozen_blk hb1 _) (Wlk_one y)
  rw [hW1]
  have HC2 := hid hc2
  have HB1 := hid hb1
  have HCH1 := hid hch1
  clear hW1 hb1 hch1 hy1 hc2 HC1
  go_wp2_with (simp only [HC2.out])
  go_ret
  have hb2 := blk_setRow (o := i * 5) (Wlk.cells y) HB1.out
  have hil : i ≤ xs.length := by omega
  refine ⟨.slice (some ⟨g, 0, none⟩) (n + 1) cap, rfl, ⟨by rw [flatMap_len hcl], .inr ⟨g, cap, _, by rw [insAt_len _ _ _ hil, hm], hg, hb2, by rw [insAt_len _ _ _ hil, hm]; omega, by simpa [maxLen] using hcm, by rw [putRow_size, hps], ?_⟩⟩, Chg.setRow (by simp) _ HCH1.out⟩
  rw [insAt_flat hcl _ _ _ hil, insAt_len _ _ _ hil, hm, Nat.add_mul, Nat.one_mul]
  have hNk : n * 5 + 5 ≤ cur.size := by rw [hcs]; have : (n + 1) * 5 ≤ cap * 5 := Nat.mul_le_mul_right _ hcap; omega
  refine ins_row HL.out rfl (by omega) (by rw [putRow_size, putRow_size]; exact hNk) fun j hj => ?_
  have := ins_shift (cy := Wlk.cells y) (p := i * 5) HL.out rfl (by omega) hNk HT.out j hj
  rw [← HD.out, show (i + 1) * 5 = i * 5 + 5 by omega]
  exact this
theorem Gst_one (x : Gst) : ∀ u ∈ Gst.cells x, u.oneCell' = true := by
  intro u hu
  simp only [Gst.cells, List.mem_cons, List.mem_nil_iff, or_false] at hu
  (repeat (first | (rcases hu with rfl | hu; rfl) | (subst hu; rfl)))
set_option maxRecDepth 100000 in
set_option maxHeartbeats 4000000 in
theorem insGst_end (xs : List Gst) (y : Gst) (v : Value) (vb vc base : Nat) (w : World) (hown : w.ownsRow base 71 7 v xs.length (xs.flatMap Gst.cells)) (hb : base ≤ w.heap.size) (hy : w.heap[vb]? = some (.cells (Gst.cells y).toArray 71 (0, 0))) (hn : xs.length ≤ 1048576) :
    Calls Try.prog 95 #[v, .int .i64 xs.length, .slice (some ⟨vb, 0, none⟩) 1 vc] w fun e w' => ∃ v', e = .returned v' ∧ w'.ownsRow base 71 7 v' (insAt xs xs.length y).length ((insAt xs xs.length y).flatMap Gst.cells) ∧ Chg v.ownBlock.toList w w' := by
  rw [insAt_end]
  have HO := hid hown
  have HY := hid hy
  rcases hown.2 with ⟨rfl, h0⟩ | ⟨g, cap, cur, rfl, hg, hB, hc, hcm, hcs, ht⟩
  · obtain rfl := List.eq_nil_of_length_eq_zero h0
    clear hown hy h0
    go_enter Try.func95, Try.ntmps95
    go_wp2_with (at_builtin; refine wpList_appRZ (xs := []) (k := 7) (bytes := 56) (z := .agg #[.int .i64 0, .int .i64 0, .int .i64 0, .int .i64 0, .int .i64 0, .int .i64 0, .int .i64 0]) Try.underlying69 (by kernel_rfl) rfl (by decide) (by decide) (fun _ => rfl) Gst_one rfl base _ _ rfl rfl hb HO.out y rfl HY.out (by simp) ?_; intro v' w' hg hc; have HG := hid hg; have HC := hid hc; clear hg hc)
    go_ret
    exact ⟨_, rfl, HG.out, HC.out⟩
  · clear hown hy ht hcs hB
    simp only [maxLen] at hcm
    generalize hm : xs.length = n at *
    by_cases hcn : cap = n
    · subst hcn
      go_enter Try.func95, Try.ntmps95
      go_wp2_with (at_builtin; refine wpList_appRZ (xs := xs) (k := 7) (bytes := 56) (z := .agg #[.int .i64 0, .int .i64 0, .int .i64 0, .int .i64 0, .int .i64 0, .int .i64 0, .int .i64 0]) Try.underlying69 (by kernel_rfl) rfl (by decide) (by decide) (fun _ => rfl) Gst_one rfl base _ _ rfl rfl hb (by rw [hm]; exact HO.out) y rfl HY.out (by omega) ?_; intro v' w' hg hc; have HG := hid hg; have HC := hid hc; clear hg hc)
      go_ret
      exact ⟨_, rfl, HG.out, HC.out⟩
    · go_enter Try.func95, Try.ntmps95
      go_wp2_with (at_builtin; refine wpList_appRZ (xs := xs) (k := 7) (bytes := 56) (z := .agg #[.int .i64 0, .int .i64 0, .int .i64 0, .int .i64 0, .int .i64 0, .int .i64 0, .int .i64 0]) Try.underlying69 (by kernel_rfl) rfl (by decide) (by decide) (fun _ => rfl) Gst_one rfl base _ _ rfl rfl hb (by rw [hm]; exact HO.out) y rfl HY.out (by omega) ?_; intro v' w' hg hc; have HG := hid hg; have HC := hid hc; clear hg hc)
      go_ret
      exact ⟨_, rfl, HG.out, HC.out⟩
set_option maxRecDepth 100000 in
set_option maxHeartbeats 4000000 in
theorem insGst_room (xs : List Gst) (y : Gst) (g cap i vb vc base : Nat) (cur : Array Value) (w : World) (hl : (xs.flatMap Gst.cells).length = xs.length * 7) (hcap : xs.length < cap) (hcm : cap ≤ 9223372036854775807) (hg : base ≤ g) (hB : w.heap[g]? = some (.cells cur 71 (0, 0))) (hcs : cur.size = cap * 7) (ht : cur.toList.take (xs.length * 7) = xs.flatMap Gst.cells)
    (hi : i < xs.length) (hy : w.heap[vb]? = some (.cells (Gst.cells y).toArray 71 (0, 0))) (hvb : vb ≠ g) (hn : xs.length ≤ 1048576) :
    Calls Try.prog 95 #[.slice (some ⟨g, 0, none⟩) xs.length cap, .int .i64 i, .slice (some ⟨vb, 0, none⟩) 1 vc] w fun e w' => ∃ v', e = .returned v' ∧ w'.ownsRow base 71 7 v' (insAt xs i y).length ((insAt xs i y).flatMap Gst.cells) ∧ Chg [g] w w' := by
  have hcl : ∀ x : Gst, (Gst.cells x).length = 7 := fun _ => rfl
  obtain ⟨D, hD⟩ : ∃ D, (xs.flatMap Gst.cells).drop (i * 7) = D := ⟨_, rfl⟩
  have hDl : D.length = (xs.length - i) * 7 := by rw [← hD, List.length_drop, hl, Nat.sub_mul]
  have hone : ∀ v ∈ xs.flatMap Gst.cells, v.oneCell' = true := fun v hv => by
    obtain ⟨x, _, hx⟩ := List.mem_flatMap.1 hv
    exact Gst_one x v hx
  have hsz : ∀ (w : World), (Go.sizeOf 71).run Try.prog w = .ok 7 w := fun w => sizeOf_run (by kernel_rfl) w
  have hszi : (Try.prog.info? 71).map (·.size) = some 7 := by kernel_rfl
  have hov : ∀ lb cb, (callFunc 98 #[.slice (some ⟨vb, 0, none⟩) 1 vc, .slice (some ⟨g, (i + 1) * 7, none⟩) lb cb]).run Try.prog w = .ok (.value (.bool false)) w := fun lb cb => by
    rw [run_callFunc_extern Try.func98 (by kernel_rfl) (by kernel_rfl) (by kernel_rfl) (e := Extern.SlicesOverlaps.overlaps #[69, 69] #[4]) (by kernel_rfl),
      Lib.run_overlaps_apart w 69 4 71 Try.underlying69 7 hsz ⟨vb, 0, none⟩ ⟨g, (i + 1) * 7, none⟩ 1 vc lb cb hvb 71 71 7 cur.size (by simp [World.shape?, hy, Gst.cells]) (by simp [World.shape?, hB]) (by omega) (frozen_blk hy 0) (frozen_blk hy 7)]
    rfl
  generalize hm : xs.length = n at *
  have HB := hid hB
  have HY := hid hy
  have HT := hid ht
  have HD := hid hD
  have HL := hid hl
  clear hB hy ht hD hl hone hszi
  go_enter Try.func95, Try.ntmps95
  go_wp2_with (simp only [hov])
  have hget : ∀ j u, D[j]? = some u → cur[i * 7 + j]? = some u := fun j u hu => by
    rw [← HD.out, List.getElem?_drop, ← HT.out, List.getElem?_take] at hu
    split at hu
    · simpa using hu
    · cases hu
  have hin : i * 7 + 7 ≤ n * 7 := by omega
  have hc1 := run_copy_k (P := Try.prog) w.drew 69 69 3 71 g ((i + 1) * 7) (n - i) (cap - (i + 1)) ⟨g, i * 7, none⟩ (n + 1 - i) (cap - i) 7 (n - i) D Try.underlying69 (by kernel_rfl)
    (by simp only [Nat.min_def]; split <;> omega) hDl (fun j u hu => by rw [ld_add]; exact (cell_blk (w := w.drew) HB.out _).trans (hget j u hu))
    (fun j hj => by obtain ⟨u, hu⟩ := some_blk (w := w.drew) HB.out ((i + 1) * 7 + j) (by omega); rw [hu]; rfl) (fun j hj => frozen_blk (w := w.drew) HB.out _)
    (fun v hv => by
      rw [← HD.out] at hv
      obtain ⟨x, _, hx⟩ := List.mem_flatMap.1 (List.mem_of_mem_drop hv)
      exact Gst_one x v hx)
  have HC1 := hid hc1
  clear hc1 hget
  with_reducible refine wp_region_mixR (R := g) (by kernel_rfl) (by decide +kernel) ?_
  repeat (refine mix_pure rfl ?_; (first | go_big_quiet_skip | (go_big_quiet_want; go_big_quiet_op; go_big_quiet_on)); refine wpQuiet_nil ?_)
  refine mix_mk rfl (by rfl) (fun K hK => ?_)
  refine wp_copy_run _ _ _ _ _ rfl rfl rfl HC1.out ?_
  refine hK _ _ (extR_of ?_) ?_
  · exact Chg.setRow (by simp) _ (Chg.refl _ _)
  clear hK K
  refine mix_nil ?_
  obtain ⟨W1, hW1⟩ : ∃ W1, setRow w.drew g ((i + 1) * 7) D = W1 := ⟨_, rfl⟩
  have hb1 : W1.heap[g]? = some (.cells (putRow cur ((i + 1) * 7) D) 71 (0, 0)) := by rw [← hW1]; exact blk_setRow D HB.out
  have hch1 : Chg [g] w W1 := by rw [← hW1]; exact Chg.setRow (by simp) _ (Chg.drew (Chg.refl _ _))
  have hy1 : W1.heap[vb]? = some (.cells (Gst.cells y).toArray 71 (0, 0)) := (hch1.block vb (lt_blk HY.out) (by simpa using hvb)).trans HY.out
  have hps : (putRow cur ((i + 1) * 7) D).size = cap * 7 := by rw [putRow_size, hcs]
  have hc2 := run_copy_k (P := Try.prog) W1 69 69 3 71 g (i * 7) (n + 1 - i) (cap - i) ⟨vb, 0, none⟩ 1 vc 7 1 (Gst.cells y) Try.underlying69 (by kernel_rfl)
    (by simp only [Nat.min_def]; split <;> omega) (by rw [hcl, Nat.one_mul]) (fun j u hu => by rw [ld_add, Nat.zero_add, cell_blk hy1]; simpa using hu)
    (fun j hj => by rw [hcl] at hj; obtain ⟨u, hu⟩ := some_blk hb1 (i * 7 + j) (by omega); rw [hu]; rfl) (fun j hj => frozen_blk hb1 _) (Gst_one y)
  rw [hW1]
  have HC2 := hid hc2
  have HB1 := hid hb1
  have HCH1 := hid hch1
  clear hW1 hb1 hch1 hy1 hc2 HC1
  go_wp2_with (simp only [HC2.out])
  go_ret
  have hb2 := blk_setRow (o := i * 7) (Gst.cells y) HB1.out
  have hil : i ≤ xs.length := by omega
  refine ⟨.slice (some ⟨g, 0, none⟩) (n + 1) cap, rfl, ⟨by rw [flatMap_len hcl], .inr ⟨g, cap, _, by rw [insAt_len _ _ _ hil, hm], hg, hb2, by rw [insAt_len _ _ _ hil, hm]; omega, by simpa [maxLen] using hcm, by rw [putRow_size, hps], ?_⟩⟩, Chg.setRow (by simp) _ HCH1.out⟩
  rw [insAt_flat hcl _ _ _ hil, insAt_len _ _ _ hil, hm, Nat.add_mul, Nat.one_mul]
  have hNk : n * 7 + 7 ≤ cur.size := by rw [hcs]; have : (n + 1) * 7 ≤ cap * 7 := Nat.mul_le_mul_right _ hcap; omega
  refine ins_row HL.out rfl (by omega) (by rw [putRow_size, putRow_size]; exact hNk) fun j hj => ?_
  have := ins_shift (cy := Gst.cells y) (p := i * 7) HL.out rfl (by omega) hNk HT.out j hj
  rw [← HD.out, show (i + 1) * 7 = i * 7 + 7 by omega]
  exact this
set_option maxRecDepth 100000 in
set_option maxHeartbeats 4000000 in
theorem insGst_full (xs : List Gst) (y : Gst) (g cap i vb vc base : Nat) (cur : Array Value) (w : World) (hl : (xs.flatMap Gst.cells).length = xs.length * 7) (hcap0 : xs.length ≤ cap) (hcap : cap < xs.length + 1) (hcm : cap ≤ 9223372036854775807) (hb0 : base ≤ w.heap.size) (hB : w.heap[g]? = some (.cells cur 71 (0, 0))) (hcs : cur.size = cap * 7) (ht : cur.toList.take (xs.length * 7) = xs.flatMap Gst.cells)
    (hi : i < xs.length) (hy : w.heap[vb]? = some (.cells (Gst.cells y).toArray 71 (0, 0))) (hn : xs.length ≤ 1048576) :
    Calls Try.prog 95 #[.slice (some ⟨g, 0, none⟩) xs.length cap, .int .i64 i, .slice (some ⟨vb, 0, none⟩) 1 vc] w fun e w' => ∃ v', e = .returned v' ∧ w'.ownsRow base 71 7 v' (insAt xs i y).length ((insAt xs i y).flatMap Gst.cells) ∧ Chg [g] w w' := by
  have hcl : ∀ x : Gst, (Gst.cells x).length = 7 := fun _ => rfl
  obtain rfl : cap = xs.length := by omega
  clear hcap0 hcap
  generalize hm : xs.length = n at *
  obtain ⟨D, hD⟩ : ∃ D, (xs.flatMap Gst.cells).drop (i * 7) = D := ⟨_, rfl⟩
  have hDl : D.length = (n - i) * 7 := by rw [← hD, List.length_drop, hl, Nat.sub_mul]
  have hone : ∀ v ∈ xs.flatMap Gst.cells, v.oneCell' = true := fun v hv => by
    obtain ⟨x, _, hx⟩ := List.mem_flatMap.1 hv
    exact Gst_one x v hx
  obtain ⟨i0, hi0, hz0, hs0, hbb0⟩ : ∃ i0, Try.prog.info? 71 = some i0 ∧ i0.zero = some (.agg #[.int .i64 0, .int .i64 0, .int .i64 0, .int .i64 0, .int .i64 0, .int .i64 0, .int .i64 0]) ∧ i0.size = 7 ∧ i0.bytes = 56 := ⟨_, rfl, rfl, rfl, rfl⟩
  have hA : (xs.flatMap Gst.cells).take (i * 7) = (xs.take i).flatMap Gst.cells := (flatMap_take hcl xs i (by omega)).symm
  have hold : (Builtin.firstCells i0.size i (.slice (some ⟨g, 0, none⟩) i n)).run Try.prog w.drew = .ok ((xs.flatMap Gst.cells).take (i * 7)).toArray w.drew := by
    rw [hs0]
    refine run_firstCells_some w.drew 7 i ⟨g, 0, none⟩ i n _ (by rw [List.length_take, hl]; omega) (fun j v hj => ?_)
    rw [ld_add, Nat.zero_add]
    refine (cell_blk (w := w.drew) hB _).trans ?_
    rw [List.getElem?_take] at hj
    split at hj
    · rw [← ht, List.getElem?_take] at hj
      split at hj
      · simpa using hj
      · cases hj
    · cases hj
  have hrz : ∀ ty, (Builtin.append_ #[69, 3] ty #[.slice (some ⟨g, 0, none⟩) i n, .int .i64 ((n : Int) + 1 - (i : Int))]).run Try.prog w =
      .ok (.slice (some ⟨w.heap.size, 0, none⟩) (n + 1) (grownCap w (n + 1) n 71)) (w.drew.alloc (.cells (((xs.flatMap Gst.cells).take (i * 7)).toArray ++ Builtin.zeroCells (Value.cells (.agg #[.int .i64 0, .int .i64 0, .int .i64 0, .int .i64 0, .int .i64 0, .int .i64 0, .int .i64 0])) (n + 1 - i) ++ Builtin.zeroCells (Value.cells (.agg #[.int .i64 0, .int .i64 0, .int .i64 0, .int .i64 0, .int .i64 0, .int .i64 0, .int .i64 0])) (grownCap w (n + 1) n 71 - (n + 1))) 71)) := fun ty => by
    have hik : i + (n + 1 - i) = n + 1 := by omega
    have hkk : (n : Int) + 1 - (i : Int) = ((n + 1 - i : Nat) : Int) := by omega
    have h := Lib.run_append_grow_zeros (P := Try.prog) w 69 3 ty 71 i0 _ .i64 .i64 Try.underlying69 Try.underlying3 hi0 hz0 (some ⟨g, 0, none⟩) i n _ hold (n + 1 - i) (by omega) (by omega) (by omega) (by omega) (by rw [hbb0]; omega) (by rw [hbb0, hik]; exact growslice_fits (by omega) (by omega))
    rw [hik] at h
    rw [hkk]
    exact h
  obtain ⟨G, hG⟩ : ∃ G, G = grownCap w (n + 1) n 71 := ⟨_, rfl⟩
  have hGn : n + 1 ≤ G := by rw [hG]; exact grownCap_ge w _ _ _
  have hG63 : G ≤ 9223372036854775807 := by
    have := grownCap_le_maxLen w (n + 1) n 71 (by unfold maxLen; omega)
    rw [← hG] at this
    unfold maxLen at this
    omega
  obtain ⟨ROW, hROW⟩ : ∃ ROW : Array Value, ROW = ((xs.flatMap Gst.cells).take (i * 7)).toArray ++ Builtin.zeroCells (Value.cells (.agg #[.int .i64 0, .int .i64 0, .int .i64 0, .int .i64 0, .int .i64 0, .int .i64 0, .int .i64 0])) (n + 1 - i) ++ Builtin.zeroCells (Value.cells (.agg #[.int .i64 0, .int .i64 0, .int .i64 0, .int .i64 0, .int .i64 0, .int .i64 0, .int .i64 0])) (G - (n + 1)) := ⟨_, rfl⟩
  rw [← hG] at hrz
  rw [← hROW] at hrz
  have hzl : ∀ m, (Builtin.zeroCells (Value.cells (.agg #[.int .i64 0, .int .i64 0, .int .i64 0, .int .i64 0, .int .i64 0, .int .i64 0, .int .i64 0])) m).size = m * 7 := fun m => by
    simp [Builtin.zeroCells, Value.cells]
  have hRl : ROW.size = G * 7 := by
    rw [hROW, Array.size_append, Array.size_append, hzl, hzl, List.size_toArray, List.length_take, hl]
    omega
  have hRp : ∀ j, j < i * 7 → ROW[j]? = (xs.flatMap Gst.cells)[j]? := fun j hj => by
    rw [hROW, Array.append_assoc, Array.getElem?_append, if_pos (by rw [List.size_toArray, List.length_take, hl]; omega), List.getElem?_toArray, List.getElem?_take, if_pos hj]
  obtain ⟨W1, hW1⟩ : ∃ W1, w.drew.alloc (.cells ROW 71) = W1 := ⟨_, rfl⟩
  obtain ⟨b, hbe⟩ : ∃ b, w.heap.size = b := ⟨_, rfl⟩
  have hb1 : W1.heap[b]? = some (.cells ROW 71 (0, 0)) := by rw [← hW1, ← hbe]; exact alloc_last rfl
  have hch1 : Chg [] w W1 := by rw [← hW1]; exact Chg.alloc (Chg.drew (Chg.refl _ _))
  have hvb := lt_blk hy
  have hgb := lt_blk hB
  have hbv : b ≠ vb := by omega
  have hbg : b ≠ g := by omega
  have hy1 : W1.heap[vb]? = some (.cells (Gst.cells y).toArray 71 (0, 0)) := (hch1.block vb hvb (by simp)).trans hy
  have hg1 : W1.heap[g]? = some (.cells cur 71 (0, 0)) := (hch1.block g hgb (by simp)).trans hB
  rw [hW1, hbe] at hrz
  have hc2 := run_copy_k (P := Try.prog) W1 69 69 3 71 b (i * 7) (n + 1 - i) (G - i) ⟨vb, 0, none⟩ 1 vc 7 1 (Gst.cells y) Try.underlying69 (by kernel_rfl)
    (by simp only [Nat.min_def]; split <;> omega) (by rw [hcl, Nat.one_mul]) (fun j u hu => by rw [ld_add, Nat.zero_add, cell_blk hy1]; simpa using hu)
    (fun j hj => by rw [hcl] at hj; obtain ⟨u, hu⟩ := some_blk hb1 (i * 7 + j) (by omega); rw [hu]; rfl) (fun j hj => frozen_blk hb1 _) (Gst_one y)
  obtain ⟨W2, hW2⟩ : ∃ W2, setRow W1 b (i * 7) (Gst.cells y) = W2 := ⟨_, rfl⟩
  rw [hW2] at hc2
  have hb2 : W2.heap[b]? = some (.cells (putRow ROW (i * 7) (Gst.cells y)) 71 (0, 0)) := by rw [← hW2]; exact blk_setRow _ hb1
  have hch2 : Chg [b] W1 W2 := by rw [← hW2]; exact Chg.setRow (by simp) _ (Chg.refl _ _)
  have hg2 : W2.heap[g]? = some (.cells cur 71 (0, 0)) := (hch2.block g (lt_blk hg1) (by simpa using Ne.symm hbg)).trans hg1
  have hget : ∀ j u, D[j]? = some u → cur[i * 7 + j]? = some u := fun j u hu => by
    rw [← hD, List.getElem?_drop, ← ht, List.getElem?_take] at hu
    split at hu
    · simpa using hu
    · cases hu
  have hc3 := run_copy_k (P := Try.prog) W2.drew 69 69 3 71 b ((i + 1) * 7) (n - i) (G - (i + 1)) ⟨g, i * 7, none⟩ (n - i) (n - i) 7 (n - i) D Try.underlying69 (by kernel_rfl)
    (by simp only [Nat.min_def]; split <;> omega) hDl (fun j u hu => by rw [ld_add]; exact (cell_blk (w := W2.drew) hg2 _).trans (hget j u hu))
    (fun j hj => by obtain ⟨u, hu⟩ := some_blk (w := W2.drew) hb2 ((i + 1) * 7 + j) (by rw [putRow_size]; omega); rw [hu]; rfl) (fun j hj => frozen_blk (w := W2.drew) hb2 _)
    (fun v hv => hone v (List.mem_of_mem_drop (hD ▸ hv)))
  have HRZ := hid hrz
  have HC2 := hid hc2
  have HC3 := hid hc3
  have HB2 := hid hb2
  have HCH := hid (show Chg [] w W1 ∧ Chg [b] W1 W2 from ⟨hch1, hch2⟩)
  have HL := hid hl
  have HD := hid hD
  have HRL := hid hRl
  have HRP := hid hRp
  have HBE := hid hbe
  clear hrz hc2 hc3 hb2 hg2 hch2 hch1 hb1 hy1 hg1 hW2 hW1 hl hD hRl hRp hROW hzl hG hget hold hi0 hz0 hs0 hbb0 hA hone hB hy ht i0 hbe
  have hcn : ¬ (n = i) := by omega
  have hGi : ¬ (G = i) := by omega
  have hGi1 : ¬ (G = i + 1) := by omega
  go_enter Try.func95, Try.ntmps95
  go_wp2_with (first | (at_builtin; refine Lib.wpList_append_run _ rfl _ _ _ _ rfl _ _ rfl rfl _ _ (HRZ.out _) ?_) | (simp only [HC2.out]))
  with_reducible refine wp_region_mixR (R := b) (by kernel_rfl) (by decide +kernel) ?_
  repeat (refine mix_pure rfl ?_; (first | go_big_quiet_skip | (go_big_quiet_want; go_big_quiet_op; go_big_quiet_on)); refine wpQuiet_nil ?_)
  refine mix_mk rfl (by rfl) (fun K hK => ?_)
  refine wp_copy_run _ _ _ _ _ rfl rfl rfl HC3.out ?_
  refine hK _ _ (extR_of ?_) ?_
  · exact Chg.setRow (by simp) _ (Chg.refl _ _)
  clear hK K
  refine mix_nil ?_
  go_wp2
  go_ret
  have hb3 := blk_setRow (w := W2.drew) (o := (i + 1) * 7) D HB2.out
  have hil : i ≤ xs.length := by omega
  refine ⟨.slice (some ⟨b, 0, none⟩) (n + 1) G, rfl, ⟨by rw [flatMap_len hcl], .inr ⟨b, G, _, by rw [insAt_len _ _ _ hil, hm], by rw [← HBE.out]; exact hb0, hb3, by rw [insAt_len _ _ _ hil, hm]; omega, by simpa [maxLen] using hG63, by rw [putRow_size, putRow_size, HRL.out], ?_⟩⟩, ?_⟩
  · rw [insAt_flat hcl _ _ _ hil, insAt_len _ _ _ hil, hm, Nat.add_mul, Nat.one_mul]
    have hNk : n * 7 + 7 ≤ ROW.size := by rw [HRL.out]; have : (n + 1) * 7 ≤ G * 7 := Nat.mul_le_mul_right _ hGn; omega
    refine ins_row HL.out rfl (by omega) (by rw [putRow_size, putRow_size]; exact hNk) fun j hj => ?_
    have := ins_new (cy := Gst.cells y) (p := i * 7) HL.out rfl (by omega) hNk HRP.out j hj
    rw [← HD.out, show (i + 1) * 7 = i * 7 + 7 by omega]
    exact this
  · have h1 : Chg [] w W2 := Chg.up HCH.out.1 HCH.out.2 (by simp [HBE.out])
    exact (Chg.up h1 (Chg.setRow (B := [b]) (by simp) D (Chg.drew (Chg.refl _ _))) (by simp [HBE.out])).mono (by simp)
/-- slices.Insert(s, i, y) of a row of one's own: a row of one's own with y at i. -/
theorem insGst_c (xs : List Gst) (y : Gst) (v : Value) (i vb vc base : Nat) (w : World) (hown : w.ownsRow base 71 7 v xs.length (xs.flatMap Gst.cells)) (hb : base ≤ w.heap.size) (hi : i ≤ xs.length) (hy : w.heap[vb]? = some (.cells (Gst.cells y).toArray 71 (0, 0))) (hvb : ∀ g, v.ownBlock = some g → vb ≠ g) (hn : xs.length ≤ 1048576) :
    Calls Try.prog 95 #[v, .int .i64 i, .slice (some ⟨vb, 0, none⟩) 1 vc] w fun e w' => ∃ v', e = .returned v' ∧ w'.ownsRow base 71 7 v' (insAt xs i y).length ((insAt xs i y).flatMap Gst.cells) ∧ Chg v.ownBlock.toList w w' := by
  rcases Nat.lt_or_ge i xs.length with hlt | hge
  · rcases hown.2 with ⟨_, h0⟩ | ⟨g, cap, cur, rfl, hg, hB, hc, hcm, hcs, ht⟩
    · omega
    · simp only [maxLen] at hcm
      rcases Nat.lt_or_ge xs.length cap with h1 | h1
      · exact insGst_room xs y g cap i vb vc base cur w hown.1 h1 hcm hg hB hcs ht hlt hy (hvb g rfl) hn
      · exact insGst_full xs y g cap i vb vc base cur w hown.1 hc (by omega) hcm hb hB hcs ht hlt hy hn
  · obtain rfl : i = xs.length := by omega
    exact insGst_end xs y v vb vc base w hown hb hy hn
end Go.Proofs.Ytbbpipbemhggdaa

namespace Go.Proofs.Ytbbpipbemhggdaa
open Go.RowKit
set_option linter.unusedSimpArgs false
set_option linter.unusedVariables false

/-- A copy in new memory: a row of one's own. -/
def MadeX {α : Type} (w : World) (T : TypeId) (k : Nat) (cells : α → List Value) (xs : List α) (e : Ending) (w' : World) : Prop :=
  ∃ a c B, e = .returned (.slice a xs.length c) ∧ Ext w w' ∧ RowX w' T k cells (.slice a xs.length c) xs B ∧ ∀ b ∈ B, w.heap.size ≤ b
theorem MadeX.made {α : Type} {cells : α → List Value} {dat : α → Dat} {sch : Sch} {k : Nat} {T : TypeId} {w w' : World} {xs : List α} {e : Ending} (hsz : sch.size = k) (hown : ∀ w x, Own w sch (cells x) (dat x) []) (h : MadeX w T k cells xs e w') : MadeL w sch xs.length (xs.map dat) e w' := by
  obtain ⟨a, c, B, rfl, hE, hr, hB⟩ := h
  exact ⟨a, c, rfl, hE, Nat.le_refl _, B, hr.nodup, fun b hb => ⟨hB b hb, hr.lt b hb⟩, hr.own hsz hown⟩
set_option maxHeartbeats 1000000 in
theorem iCloneWlk_x (xs : List Wlk) (a : Option Addr) (n c : Nat) (w : World) (hx : Re w (.sl sWlk) [.slice a n c] (.l (xs.map Wlk.dat))) (hn : n ≤ 2097152) :
    Calls Try.prog 72 #[.slice a n c] w (MadeX w 52 5 Wlk.cells xs) := by
  have HX := hid hx
  have hl := hx.len
  clear hx
  go_enter Try.func72, Try.ntmps72
  go_wp2_with (refine wpList_cloneX (cells := Wlk.cells) (k := 5) (bytes := 40) (z := .agg #[.int .i64 0, .int .i64 0, .int .i64 0, .int .i64 0, .int .i64 0]) Try.underlying50 (by kernel_rfl) rfl (by decide) (by decide) rfl (fun _ => rfl) (fun _ _ _ _ h => rd_Wlk h) (fun _ _ h => Wlk.dat_inj h) (fun x u hu => by simp only [Wlk.cells, List.mem_cons, List.not_mem_nil, or_false] at hu; rcases hu with rfl | rfl | rfl | rfl | rfl <;> rfl) (fun w x => own_Wlk_mk w x) rfl _ _ rfl rfl (.inl rfl) xs rfl (HX.out.of zq0) hn ?_; intro a' c' t' B' hr hB; have HR := hid hr; have HB := hid hB; clear hr hB)
  go_ret
  subst hl
  exact ⟨a', c', B', rfl, zq0, HR.out, HB.out⟩
set_option maxHeartbeats 1000000 in
theorem iCloneGst_x (xs : List Gst) (a : Option Addr) (n c : Nat) (w : World) (hx : Re w (.sl sGst) [.slice a n c] (.l (xs.map Gst.dat))) (hn : n ≤ 2097152) :
    Calls Try.prog 94 #[.slice a n c] w (MadeX w 71 7 Gst.cells xs) := by
  have HX := hid hx
  have hl := hx.len
  clear hx
  go_enter Try.func94, Try.ntmps94
  go_wp2_with (refine wpList_cloneX (cells := Gst.cells) (k := 7) (bytes := 56) (z := .agg #[.int .i64 0, .int .i64 0, .int .i64 0, .int .i64 0, .int .i64 0, .int .i64 0, .int .i64 0]) Try.underlying69 (by kernel_rfl) rfl (by decide) (by decide) rfl (fun _ => rfl) (fun _ _ _ _ h => rd_Gst h) (fun _ _ h => Gst.dat_inj h) (fun x u hu => by simp only [Gst.cells, List.mem_cons, List.not_mem_nil, or_false] at hu; rcases hu with rfl | rfl | rfl | rfl | rfl | rfl | rfl <;> rfl) (fun w x => own_Gst_mk w x) rfl _ _ rfl rfl (.inl rfl) xs rfl (HX.out.of zq0) hn ?_; intro a' c' t' B' hr hB; have HR := hid hr; have HB := hid hB; clear hr hB)
  go_ret
  subst hl
  exact ⟨a', c', B', rfl, zq0, HR.out, HB.out⟩
end Go.Proofs.Ytbbpipbemhggdaa

namespace Go.Proofs.Ytbbpipbemhggdaa
open Go.RowKit
set_option linter.unusedSimpArgs false
set_option linter.unusedVariables false

/-- The place of the first element that passes; the length for none. -/
def pos {α : Type} (p : α → Bool) : List α → Nat
  | [] => 0
  | x :: r => if p x then 0 else pos p r + 1
end Go.Proofs.Ytbbpipbemhggdaa

namespace Go.Proofs.Ytbbpipbemhggdaa
open Go.RowKit
theorem app_gate {P : Program} {ops : Array Oper} {rest : List Oper} {Q : Exit → Act → World → Prop} {a : Act} {w : World} {d : Option Nat} {s x : Operand} {T1 T2 ty : TypeId} {ps : String} {af : Array Edge}
    (h : wpList P ops Q ({ dst := d, op := Op.call { callee := Callee.builtin Builtin.append, args := #[s, x], argTypes := #[T1, T2] }, type := ty, pos := ps, after := af, guard := none } :: rest) a w) :
    wpList P ops Q ({ dst := d, op := Op.call { callee := Callee.builtin Builtin.append, args := #[s, x], argTypes := #[T1, T2] }, type := ty, pos := ps, after := af, guard := none } :: rest) a w := h
section
variable {α : Type} {cells : α → List Value} {k bytes : Nat} {z : Value} {TS T : TypeId}
/-- An element appended; a block p beside the row stays as it was. -/
theorem wpList_appXC (hT : Try.prog.underlying TS = some (.slice T)) (hI : (Try.prog.info? T).map (fun i => (i.zero, i.size, i.bytes)) = some (some z, k, bytes)) (hz : z.cells.size = k) (hpos : 0 < k) (hby : bytes ≤ 1024)
    (hcl : ∀ x, (cells x).length = k) (hone : ∀ x, ∀ u ∈ cells x, u.oneCell' = true)
    {ops : Array Oper} {rest : List Oper} {o : Oper} {a : Act} {Q : Exit → Act → World → Prop} {w : World} (hgd : o.guard = none) (w0 : World) (s x : Operand) (ho : o.op = .call { callee := .builtin .append, args := #[s, x], argTypes := #[TS, TS] })
    {v : Value} {xs : List α} {B : List Nat} (hs : a.eval s = v) (hE : Ext w0 w) (hown : RowX w T k cells v xs B) (hB : ∀ b ∈ B, w0.heap.size ≤ b) (y : α) {b c : Nat} {T' : TypeId} (hx : a.eval x = .slice (some ⟨b, 0, none⟩) 1 c) (hy : w.heap[b]? = some (.cells (cells y).toArray T' (0, 0))) (hn : xs.length ≤ 4194304)
    (p : Nat) (ob : Obj) (hp : w.heap[p]? = some ob) (hpB : p ∉ B)
    (h : ∀ v' t' B', RowX (ext w0 t') T k cells v' (xs ++ [y]) B' → (∀ b ∈ B', w0.heap.size ≤ b) → (ext w0 t').heap[p]? = some ob → wpList Try.prog ops Q rest (a.put o.dst v') (ext w0 t')) : wpList Try.prog ops Q (o :: rest) a w :=
  wpList_plain hgd fun _ hK => wp_appX hT hI hz hpos hby hcl hone s x ho hs hown y hx hy hn fun v' w' B' h1 h2 h3 => by
    have hlt : p < w.heap.size := lt_blk hp
    have hk := (h2.block p hlt hpB).trans hp
    obtain ⟨t', rfl⟩ : Ext w0 w' := Ext.of_below (Below.chg hE.below h2 hB)
    refine hK _ _ (h v' t' B' h1 (fun b hb => ?_) hk)
    rcases h3 with rfl | rfl
    · exact hB b hb
    · obtain rfl : b = w.heap.size := by simpa using hb
      exact hE.size
end
end Go.Proofs.Ytbbpipbemhggdaa

namespace Go.Proofs.Ytbbpipbemhggdaa
open Go.RowKit
set_option linter.unusedSimpArgs false
set_option linter.unusedVariables false

section
variable {α : Type} {cells : α → List Value} {k bytes : Nat} {z : Value} {TS T : TypeId}
/-- An element appended to a row: what has changed is told by blocks. -/
theorem wpList_appXK (hT : Try.prog.underlying TS = some (.slice T)) (hI : (Try.prog.info? T).map (fun i => (i.zero, i.size, i.bytes)) = some (some z, k, bytes)) (hz : z.cells.size = k) (hpos : 0 < k) (hby : bytes ≤ 1024)
    (hcl : ∀ x, (cells x).length = k) (hone : ∀ x, ∀ u ∈ cells x, u.oneCell' = true)
    {ops : Array Oper} {rest : List Oper} {o : Oper} {a : Act} {Q : Exit → Act → World → Prop} {w : World} (hgd : o.guard = none) (s x : Operand) (ho : o.op = .call { callee := .builtin .append, args := #[s, x], argTypes := #[TS, TS] })
    {v : Value} {xs : List α} {B : List Nat} (hs : a.eval s = v) (hown : RowX w T k cells v xs B) (y : α) {b c : Nat} {T' : TypeId} (hx : a.eval x = .slice (some ⟨b, 0, none⟩) 1 c) (hy : w.heap[b]? = some (.cells (cells y).toArray T' (0, 0))) (hn : xs.length ≤ 4194304)
    (h : ∀ v' w' B', RowX w' T k cells v' (xs ++ [y]) B' → Chg B w w' → (B' = B ∨ B' = [w.heap.size]) → wpList Try.prog ops Q rest (a.put o.dst v') w') : wpList Try.prog ops Q (o :: rest) a w :=
  wpList_plain hgd fun _ hK => wp_appX hT hI hz hpos hby hcl hone s x ho hs hown y hx hy hn fun v' w' B' h1 h2 h3 => hK _ _ (h v' w' B' h1 h2 h3)
end
/-- A list of walkers in memory of its own, made behind b0. -/
def LstW (b0 : Nat) (w : World) (v : Value) (xs : List Wlk) : Prop := ∃ B, RowX w 52 5 Wlk.cells v xs B ∧ (∀ b ∈ B, b0 ≤ b) ∧ (∀ x ∈ xs, WlkIn x)
theorem LstW.chg {b0 : Nat} {w w' : World} {v : Value} {xs : List Wlk} {B' : List Nat} (h : LstW b0 w v xs) (hc : Chg B' w w') (hB' : ∀ b ∈ B', b < b0) : LstW b0 w' v xs := by
  obtain ⟨B, h2, h3, h4⟩ := h
  exact ⟨B, h2.chg hc (fun b hb hm => by have := h3 b hb; have := hB' b hm; omega), h3, h4⟩
theorem LstW.of {b0 : Nat} {w w' : World} {v : Value} {xs : List Wlk} (h : LstW b0 w v xs) (hE : Ext w w') : LstW b0 w' v xs := h.chg (Chg.of_ext hE []) (by simp)
end Go.Proofs.Ytbbpipbemhggdaa

namespace Go.Proofs.Ytbbpipbemhggdaa
open Go.RowKit
set_option linter.unusedSimpArgs false
set_option linter.unusedVariables false

def MpB (R : Nat) (w : World) : Prop := ∃ x : Mp, w.heap[R]? = some (.cells #[.int .i64 x.c, .int .i64 x.w] 24 (0, 0))
def MpAt (R : Nat) (w : World) : Prop := ∃ x : Mp, w.heap[R]? = some (.cells #[.int .i64 x.c, .int .i64 x.w] 24 (0, 0)) ∧ MapIn x
theorem MpB.chg {R : Nat} {w w' : World} {B : List Nat} (h : MpB R w) (hc : Chg B w w') (hR : R ∉ B) : MpB R w' := by
  obtain ⟨x, h⟩ := h
  exact ⟨x, (hc.block R (lt_blk h) hR).trans h⟩
theorem MpB.of {R : Nat} {w w' : World} (h : MpB R w) (hE : Ext w w') : MpB R w' := h.chg (Chg.of_ext hE []) (by simp)
theorem MpB.drw {R : Nat} {w : World} (h : MpB R w) : MpB R w.drew := h
theorem MpAt.chg {R : Nat} {w w' : World} {B : List Nat} (h : MpAt R w) (hc : Chg B w w') (hR : R ∉ B) : MpAt R w' := by
  obtain ⟨x, h, hx⟩ := h
  exact ⟨x, (hc.block R (lt_blk h) hR).trans h, hx⟩
/-- A result's block, and a block that holds a map. -/
def MJ (M : Nat) (m : Mp) (R : Nat) (w : World) : Prop := MpB R w ∧ w.heap[M]? = some (.cells #[.int .i64 m.c, .int .i64 m.w] 24 (0, 0))
theorem MJ.chg {M R : Nat} {m : Mp} {w w' : World} {B : List Nat} (h : MJ M m R w) (hc : Chg B w w') (hR : R ∉ B ∧ M ∉ B) : MJ M m R w' := ⟨h.1.chg hc hR.1, (hc.block M (lt_blk h.2) hR.2).trans h.2⟩
theorem MJ.of {M R : Nat} {m : Mp} {w w' : World} (h : MJ M m R w) (hE : Ext w w') : MJ M m R w' := h.chg (Chg.of_ext hE []) (by simp)
theorem MJ.drw {M R : Nat} {m : Mp} {w : World} (h : MJ M m R w) : MJ M m R w.drew := h
theorem mp_store {w : World} {R : Nat} {x0 x : Mp} (h : w.heap[R]? = some (.cells #[.int .i64 x0.c, .int .i64 x0.w] 24 (0, 0))) :
    ((w.setCell ⟨R, 0, none⟩ (.int .i64 x.c)).setCell ⟨R, 1, none⟩ (.int .i64 x.w)).heap[R]? = some (.cells #[.int .i64 x.c, .int .i64 x.w] 24 (0, 0)) := by
  refine Eq.trans (blk_set (blk_set h)) ?_
  simp only [List.setIfInBounds_toArray, List.set_cons_zero, List.set_cons_succ]
end Go.Proofs.Ytbbpipbemhggdaa

namespace Go.Proofs.Ytbbpipbemhggdaa
open Go.RowKit
set_option linter.unusedSimpArgs false
set_option linter.unusedVariables false

/-- Of the blocks below n those of L may have changed; of the newer ones those of a kind may have turned into others of that kind. -/
structure ChgT (n : Nat) (L : List Nat) (TO : Obj → Prop) (a b : World) : Prop where
  os : b.os = a.os
  tape : b.tape = a.tape
  output : b.output = a.output
  size : a.heap.size ≤ b.heap.size
  old : ∀ k, k < n → k < a.heap.size → k ∉ L → b.heap[k]? = a.heap[k]?
  new : ∀ k, n ≤ k → k < a.heap.size → b.heap[k]? = a.heap[k]? ∨ ∃ o o', a.heap[k]? = some o ∧ b.heap[k]? = some o' ∧ TO o ∧ TO o'
theorem ChgT.refl (n : Nat) (L : List Nat) (TO : Obj → Prop) (a : World) : ChgT n L TO a a := ⟨rfl, rfl, rfl, Nat.le_refl _, fun _ _ _ _ => rfl, fun _ _ _ => .inl rfl⟩
theorem ChgT.trans {n : Nat} {L : List Nat} {TO : Obj → Prop} {a b c : World} (h : ChgT n L TO a b) (k : ChgT n L TO b c) : ChgT n L TO a c := by
  refine ⟨k.os.trans h.os, k.tape.trans h.tape, k.output.trans h.output, Nat.le_trans h.size k.size, fun i hi ha hn => (k.old i hi (Nat.lt_of_lt_of_le ha h.size) hn).trans (h.old i hi ha hn), fun i hi ha => ?_⟩
  rcases h.new i hi ha with h1 | ⟨o, o', h1, h2, h3, h4⟩
  · rcases k.new i hi (Nat.lt_of_lt_of_le ha h.size) with k1 | ⟨q, q', k1, k2, k3, k4⟩
    · exact .inl (k1.trans h1)
    · exact .inr ⟨q, q', h1.symm.trans k1, k2, k3, k4⟩
  · rcases k.new i hi (Nat.lt_of_lt_of_le ha h.size) with k1 | ⟨q, q', k1, k2, k3, k4⟩
    · exact .inr ⟨o, o', h1, k1.trans h2, h3, h4⟩
    · exact .inr ⟨o, q', h1, k2, h3, k4⟩
theorem ChgT.of {n : Nat} {L B : List Nat} {TO : Obj → Prop} {a b : World} (h : Chg B a b) (hB : ∀ x ∈ B, x ∈ L ∧ x < n) : ChgT n L TO a b :=
  ⟨h.os, h.tape, h.output, h.size, fun k _ ha hn => h.block k ha fun hb => hn (hB k hb).1, fun k hk ha => .inl (h.block k ha fun hb => by have := (hB k hb).2; omega)⟩
/-- One of the newer blocks has turned. -/
def Turn (n : Nat) (TO : Obj → Prop) (a b : World) : Prop := ∃ X o o', n ≤ X ∧ a.heap[X]? = some o ∧ b.heap[X]? = some o' ∧ TO o ∧ TO o' ∧ Chg [X] a b
theorem Turn.chgT {n : Nat} {L : List Nat} {TO : Obj → Prop} {a b : World} (h : Turn n TO a b) : ChgT n L TO a b := by
  obtain ⟨X, o, o', hX, h1, h2, h3, h4, hc⟩ := h
  refine ⟨hc.os, hc.tape, hc.output, hc.size, fun k hk ha _ => hc.block k ha (by simp; omega), fun k hk ha => ?_⟩
  by_cases e : k = X
  · subst e; exact .inr ⟨o, o', h1, h2, h3, h4⟩
  · exact .inl (hc.block k ha (by simpa using e))
theorem ChgT.chg {n : Nat} {L : List Nat} {TO : Obj → Prop} {a b : World} (h : ChgT n L TO a b) (hn : n = a.heap.size) : Chg L a b :=
  ⟨h.os, h.tape, h.output, h.size, fun k hk hm => h.old k (by omega) hk hm⟩
/-- A pointer to a newer block of a kind. -/
def PtB (n : Nat) (TO : Obj → Prop) (v : Value) (w : World) : Prop := ∃ b, v = .pointer (some ⟨b, 0, none⟩) ∧ n ≤ b ∧ ∃ o, w.heap[b]? = some o ∧ TO o
theorem PtB.chgT {n : Nat} {L : List Nat} {TO : Obj → Prop} {v : Value} {w w' : World} (h : PtB n TO v w) (hc : ChgT n L TO w w') : PtB n TO v w' := by
  obtain ⟨b, h1, h2, o, h3, h4⟩ := h
  rcases hc.new b h2 (lt_blk h3) with k1 | ⟨q, q', k1, k2, k3, k4⟩
  · exact ⟨b, h1, h2, o, k1.trans h3, h4⟩
  · exact ⟨b, h1, h2, q', k2, k4⟩
theorem IntArr.chgT {n : Nat} {L : List Nat} {TO : Obj → Prop} {w w' : World} {b k : Nat} {lo hi : Int} (h : IntArr w b k lo hi) (hc : ChgT n L TO w w') (hb : n ≤ b) (hT : ∀ arr fr, ¬ TO (.cells arr 3 fr)) : IntArr w' b k lo hi := by
  obtain ⟨arr, h1, h2⟩ := h
  rcases hc.new b hb (lt_blk h1) with k1 | ⟨q, q', k1, k2, k3, k4⟩
  · exact ⟨arr, k1.trans h1, h2⟩
  · rw [h1] at k1
    obtain rfl := Option.some.inj k1
    exact (hT _ _ k3).elim
theorem MkI.chgT {W n : Nat} {L : List Nat} {TO : Obj → Prop} {lo hi : Int} {v : Value} {w w' : World} (h : MkI W n lo hi v w) (hc : ChgT W L TO w w') (hT : ∀ arr fr, ¬ TO (.cells arr 3 fr)) : MkI W n lo hi v w' := by
  obtain ⟨b, h1, h2, h3⟩ := h
  exact ⟨b, h1, h2, h3.chgT hc h2 hT⟩
theorem PtI.chgT {W n : Nat} {L : List Nat} {TO : Obj → Prop} {lo hi : Int} {v : Value} {w w' : World} (h : PtI W n lo hi v w) (hc : ChgT W L TO w w') (hT : ∀ arr fr, ¬ TO (.cells arr 3 fr)) : PtI W n lo hi v w' := by
  obtain ⟨b, k, h1, h0, h2, h3⟩ := h
  exact ⟨b, k, h1, h0, h2, h3.chgT hc h2 hT⟩
/-- Blocks, and what is known of each. -/
def Held (Rs : List (Nat × (Obj → Prop))) (w : World) : Prop := ∀ q ∈ Rs, ∃ o, w.heap[q.1]? = some o ∧ q.2 o
theorem Held.at {Rs : List (Nat × (Obj → Prop))} {w : World} (h : Held Rs w) {k : Nat} {P : Obj → Prop} (hm : (k, P) ∈ Rs) : ∃ o, w.heap[k]? = some o ∧ P o := h (k, P) hm
theorem Held.nil {w : World} : Held [] w := fun _ h => by cases h
theorem Held.cons {Rs : List (Nat × (Obj → Prop))} {w : World} {k : Nat} {P : Obj → Prop} {o : Obj} (h : w.heap[k]? = some o) (hp : P o) (hr : Held Rs w) : Held ((k, P) :: Rs) w := fun q hq => by
  rcases List.mem_cons.1 hq with rfl | hq
  · exact ⟨o, h, hp⟩
  · exact hr q hq
theorem Held.chg {Rs : List (Nat × (Obj → Prop))} {w w' : World} {B : List Nat} (h : Held Rs w) (hc : Chg B w w') (hB : ∀ k ∈ Rs.map Prod.fst, k ∉ B) : Held Rs w' := fun q hq => by
  obtain ⟨o, h1, h2⟩ := h q hq
  exact ⟨o, (hc.block q.1 (lt_blk h1) (hB q.1 (List.mem_map.2 ⟨q, hq, rfl⟩))).trans h1, h2⟩
theorem Held.of {Rs : List (Nat × (Obj → Prop))} {w w' : World} (h : Held Rs w) (hE : Ext w w') : Held Rs w' := h.chg (Chg.of_ext hE []) (by simp)
theorem Held.drw {Rs : List (Nat × (Obj → Prop))} {w : World} (h : Held Rs w) : Held Rs w.drew := h
/-- A block among them was stored into. -/
theorem Held.put {Rs : List (Nat × (Obj → Prop))} {w w' : World} {R : Nat} {o : Obj} (h : Held Rs w) (hc : Chg [R] w w') (ho : w'.heap[R]? = some o) (hP : ∀ q ∈ Rs, q.1 = R → q.2 o) : Held Rs w' := fun q hq => by
  obtain ⟨o1, h1, h2⟩ := h q hq
  by_cases e : q.1 = R
  · exact ⟨o, by rw [e]; exact ho, hP q hq e⟩
  · exact ⟨o1, (hc.block q.1 (lt_blk h1) (by simpa using e)).trans h1, h2⟩
/-- What is known of one block. -/
def BlkP (R : Nat) (P : Obj → Prop) (w : World) : Prop := ∃ o, w.heap[R]? = some o ∧ P o
theorem BlkP.chg {R : Nat} {P : Obj → Prop} {w w' : World} {B : List Nat} (h : BlkP R P w) (hc : Chg B w w') (hR : R ∉ B) : BlkP R P w' := by
  obtain ⟨o, h1, h2⟩ := h
  exact ⟨o, (hc.block R (lt_blk h1) hR).trans h1, h2⟩
theorem BlkP.turn {R n : Nat} {P TO : Obj → Prop} {w w' : World} (h : BlkP R P w) (hc : Turn n TO w w') (hR : R < n) : BlkP R P w' := by
  obtain ⟨X, o, o', hX, h1, h2, h3, h4, hc⟩ := hc
  exact h.chg hc (by simp; omega)
def oMp (x : Mp) : Obj := .cells #[.int .i64 x.c, .int .i64 x.w] 24 (0, 0)
def oWlk (x : Wlk) : Obj := .cells #[.int .i64 x.id, .int .i64 x.at_, .int .i64 x.coins, .int .i64 x.seq, .int .i64 x.last] 52 (0, 0)
def IsWlk (o : Obj) : Prop := ∃ x, o = oWlk x
def IsMp (o : Obj) : Prop := ∃ x, o = oMp x
theorem noInt_none (arr : Array Value) (fr : Nat × Nat) : ¬ (fun _ : Obj => False) (.cells arr 3 fr) := id
end Go.Proofs.Ytbbpipbemhggdaa

namespace Go.Proofs.Ytbbpipbemhggdaa
open Go.RowKit
set_option linter.unusedSimpArgs false
set_option linter.unusedVariables false

def oGst (x : Gst) : Obj := .cells #[.int .i64 x.src, .int .i64 x.count, .int .i64 x.wk.id, .int .i64 x.wk.at_, .int .i64 x.wk.coins, .int .i64 x.wk.seq, .int .i64 x.wk.last] 71 (0, 0)
def IsGst (o : Obj) : Prop := ∃ x, o = oGst x
theorem noInt_Gst (arr : Array Value) (fr : Nat × Nat) : ¬ IsGst (.cells arr 3 fr) := fun ⟨x, h⟩ => by
  simp only [oGst, Obj.cells.injEq] at h
  exact absurd h.2.1 (by decide)
theorem gst_store {w : World} {R : Nat} {x0 x : Gst} (h : w.heap[R]? = some (oGst x0)) : (((((((w.setCell ⟨R, 0, none⟩ (.int .i64 x.src)).setCell ⟨R, 1, none⟩ (.int .i64 x.count)).setCell ⟨R, 2, none⟩ (.int .i64 x.wk.id)).setCell ⟨R, 3, none⟩ (.int .i64 x.wk.at_)).setCell ⟨R, 4, none⟩ (.int .i64 x.wk.coins)).setCell ⟨R, 5, none⟩ (.int .i64 x.wk.seq)).setCell ⟨R, 6, none⟩ (.int .i64 x.wk.last)).heap[R]? = some (oGst x) := by
  refine Eq.trans (blk_set (blk_set (blk_set (blk_set (blk_set (blk_set (blk_set h))))))) ?_
  simp only [List.setIfInBounds_toArray, List.set_cons_zero, List.set_cons_succ, oGst]
theorem wlk_setAt {w : World} {R : Nat} {x0 : Wlk} {v : Int} (h : w.heap[R]? = some (oWlk x0)) : (w.setCell ⟨R, 1, none⟩ (.int .i64 v)).heap[R]? = some (oWlk { x0 with at_ := v }) := by
  refine Eq.trans (blk_set h) ?_
  simp only [List.setIfInBounds_toArray, List.set_cons_zero, List.set_cons_succ, oWlk]
def InG (v : Value) : Prop := ∃ x : Gst, v = .agg #[.int .i64 x.src, .int .i64 x.count, .int .i64 x.wk.id, .int .i64 x.wk.at_, .int .i64 x.wk.coins, .int .i64 x.wk.seq, .int .i64 x.wk.last] ∧ True
def InWu (v : Value) : Prop := ∃ x : Wlk, v = .agg #[.int .i64 x.id, .int .i64 x.at_, .int .i64 x.coins, .int .i64 x.seq, .int .i64 x.last] ∧ True
theorem sPlcOk_d (m : Mp) (b : Bool) (w : World) (h : Hid (plcOk m = b)) : Calls Try.prog 14 #[.agg #[.int .i64 m.c, .int .i64 m.w]] w fun e w' => e = .returned (.bool b) ∧ Ext w w' := h.out ▸ sPlcOk_c m w
set_option maxRecDepth 100000 in
set_option maxHeartbeats 8000000 in
theorem l21Ghost_c (lo p Q : Nat) (m : Mp) (w : World) (h : Rdr lo p Q w) (hQ : Q ≤ 80000) (hm : MapIn m) :
    Calls Try.prog 79 #[.pointer (some ⟨p, 0, none⟩), .agg #[.int .i64 m.c, .int .i64 m.w]] w fun e w' => ∃ x : Gst, e = .returned (.agg #[.int .i64 x.src, .int .i64 x.count, .int .i64 x.wk.id, .int .i64 x.wk.at_, .int .i64 x.wk.coins, .int .i64 x.wk.seq, .int .i64 x.wk.last]) ∧ Rdr lo p (Q + 100) w' ∧ Chg [p] w w' := by
  have lP := h.lt
  have hlo := h.lo
  have HR := hid h
  have HM := hid hm
  clear h
  obtain ⟨m0, m1, m2, m3⟩ := hm
  cases ok : plcOk m with
  | false =>
    have OK := hid ok
    clear ok
    go_enter Try.func79, Try.ntmps79
    try go_wp2_with (first
        | (go_at_call 89; (with_reducible refine (l20Walker_c lo p Q m _ (HR.out.of zq0) (by omega) HM.out).mono ?_); rintro e w1 ⟨x, rfl, _, hR, hC⟩; have bR := hid (show w1.heap[w.heap.size + 1]? = some (oGst ⟨0, 0, ⟨0, 0, 0, 0, 0⟩⟩) from (hC.block _ (by (try simp [go_sem]) <;> (try simp [Xt.add]) <;> omega) (by simp; omega)).trans zq3); have bM := hid (show w1.heap[w.heap.size]? = some (oMp m) from (hC.block _ (by (try simp [go_sem]) <;> (try simp [Xt.add]) <;> omega) (by simp; omega)).trans zq3); have cM0 : w1.cell? ⟨w.heap.size, 0, none⟩ = some (.int .i64 m.c) := (cell_blk bM.out 0).trans rfl; have cM1 : w1.cell? ⟨w.heap.size, 1, none⟩ = some (.int .i64 m.w) := (cell_blk bM.out 1).trans rfl; have lM9 := lt_blk bM.out; have HR1 := hid hR; have HC1 := hid (show Chg [p] w w1 from Chg.trans zq1 hC); clear hR hC) | (go_at_call 14; (with_reducible refine (sPlcOk_d m _ _ (by assumption)).mono ?_); rintro e w' ⟨rfl, t5, rfl⟩)
        | (
          with_reducible refine wp_region_mix (by kernel_rfl) (by decide +kernel) ?_
          repeat (first
            | (refine mix_pure rfl ?_; (first | go_big_quiet_skip | (go_big_quiet_want; go_big_quiet_op; go_big_quiet_on)); refine wpQuiet_nil ?_)
            | (refine mix_skip (by rfl) ?_; (try simp only [Act.put, List.setIfInBounds_toArray, List.set_cons_zero, List.set_cons_succ]))
            | (refine mix_mk rfl (by rfl) (fun K hK => ?_); (first | (go_simp; first | (go_at_call 89; (with_reducible refine (l20Walker_c lo p Q m _ (HR.out.of zq0) (by omega) HM.out).mono ?_); rintro e w1 ⟨x, rfl, _, hR, hC⟩; have bR := hid (show w1.heap[w.heap.size + 1]? = some (oGst ⟨0, 0, ⟨0, 0, 0, 0, 0⟩⟩) from (hC.block _ (by (try simp [go_sem]) <;> (try simp [Xt.add]) <;> omega) (by simp; omega)).trans zq3); have bM := hid (show w1.heap[w.heap.size]? = some (oMp m) from (hC.block _ (by (try simp [go_sem]) <;> (try simp [Xt.add]) <;> omega) (by simp; omega)).trans zq3); have cM0 : w1.cell? ⟨w.heap.size, 0, none⟩ = some (.int .i64 m.c) := (cell_blk bM.out 0).trans rfl; have cM1 : w1.cell? ⟨w.heap.size, 1, none⟩ = some (.int .i64 m.w) := (cell_blk bM.out 1).trans rfl; have lM9 := lt_blk bM.out; have HR1 := hid hR; have HC1 := hid (show Chg [p] w w1 from Chg.trans zq1 hC); clear hR hC) | (go_at_call 14; (with_reducible refine (sPlcOk_d m _ _ (by assumption)).mono ?_); rintro e w' ⟨rfl, t5, rfl⟩) | skip)); (show K _ _); refine hK _ _ (show Ext _ _ from zq0) ?_; clear hK K; (try simp only [Act.put, List.setIfInBounds_toArray, List.set_cons_zero, List.set_cons_succ])))
          refine mix_nil ?_)
        | (
          with_reducible refine wp_region_ext (by kernel_rfl) (by kernel_rfl) ?_
          repeat (first | go_big_quiet_skip | (go_big_quiet_want; go_big_quiet_op; first | go_big_quiet_on | (apply Exists.intro; refine ⟨fun _ => ?_, ?_⟩; (fail); (try rw [h1]); (try rw [h2]); (try rw [h3]); (try rw [h4]); (try rw [p1]); (try rw [p2]); (try rw [p3]); (try rw [p4]); (try rw [r1]); (try rw [r2]); (try rw [r3]); (try rw [r4]); (try rw [r5]); (try rw [r6]); (try rw [q3]); (try rw [q4]); (try rw [hp]); (try rw [hq]); go_big_quiet_on)))
          refine wpQuiet_nil ?_
          rintro _ ⟨tq, rfl⟩))
    refine wp_gen fun X hX => ?_
    obtain ⟨M, hMe⟩ : ∃ M, w.heap.size = M := ⟨_, rfl⟩
    obtain ⟨R, hRe⟩ : ∃ R, w.heap.size + 1 = R := ⟨_, rfl⟩
    obtain ⟨S, hSe⟩ : ∃ S, w1.heap.size = S := ⟨_, rfl⟩
    have EX : Ext w1 X := by rw [hX]; ((try simp only [ext_drew]); (try simp only [ext_ext]); repeat (first | exact Ext.refl _ | with_reducible apply Ext.add | with_reducible apply Ext.dr | apply Ext.alloc | apply Ext.ext | apply Ext.drew | refine Ext.trans ?_ (by assumption)))
    have bS : X.heap[S]? = some (oWlk x) := by rw [hX, ← hSe]; exact zq3
    have lM1 := lt_blk bM.out
    have lR1 := lt_blk bR.out
    have bM2 := (EX.block lM1).trans bM.out
    have bR2 := (EX.block lR1).trans bR.out
    have lp1 := HR1.out.lt
    rw [hRe, hMe, hSe]
    rw [hMe] at bM2 lM1
    rw [hRe] at bR2 lR1
    have hSM : S ≠ M := by omega
    have hSR : S ≠ R := by omega
    have hMR : M ≠ R := by omega
    have hSp : S ≠ p := by omega
    have hMp : M ≠ p := by omega
    have hRp : R ≠ p := by omega
    have hwS : w.heap.size ≤ S := by omega
    have hwR : w.heap.size ≤ R := by omega
    have hwM : w.heap.size ≤ M := by omega
    have HJ := hid (show Rdr lo p (Q + 20) X ∧ Held [(S, IsWlk), (M, fun o => o = oMp m), (R, fun o => o = oGst ⟨0, 0, ⟨0, 0, 0, 0, 0⟩⟩)] X from ⟨HR1.out.of EX, Held.cons bS ⟨_, rfl⟩ (Held.cons bM2 rfl (Held.cons bR2 rfl Held.nil))⟩)
    have HCX := hid (HC1.out.trans (Chg.of_ext EX [p]))
    clear hX EX hMe hRe hSe bS bM2 bR2 bM bR lM1 lR1 lp1 HR HR1 HC1 cM0 cM1 lM9
    have HRZ0 := hid HJ.out.1
    obtain ⟨Z, hZ⟩ : ∃ Z, X = Z := ⟨_, rfl⟩
    rw [hZ] at HJ HCX HRZ0 ⊢
    have HRZ := hid (HJ.out.1.up (show _ ≤ Q + 60 by omega))
    have HHZ := hid HJ.out.2
    have HCZ := HCX
    clear HJ HCX HRZ0 hZ
    refine wp_gen fun Y hY => ?_
    have EY : Ext Z Y := by rw [hY]; ((try simp only [ext_drew]); (try simp only [ext_ext]); repeat (first | exact Ext.refl _ | with_reducible apply Ext.add | with_reducible apply Ext.dr | apply Ext.alloc | apply Ext.ext | apply Ext.drew | refine Ext.trans ?_ (by assumption)))
    have HJ := hid (show Rdr lo p (Q + 60) Y ∧ Held [(S, IsWlk), (M, fun o => o = oMp m), (R, fun o => o = oGst ⟨0, 0, ⟨0, 0, 0, 0, 0⟩⟩)] Y from ⟨(HRZ.out.of EY).up (by omega), HHZ.out.of EY⟩)
    have HCY := hid (HCZ.out.trans (Chg.of_ext EY [p]))
    obtain ⟨_, hbS0, _⟩ := HJ.out.2.at (.head _)
    obtain ⟨_, hbM0, _⟩ := HJ.out.2.at (.tail _ (.head _))
    obtain ⟨_, hbR0, _⟩ := HJ.out.2.at (.tail _ (.tail _ (.head _)))
    have lS0 := lt_blk hbS0
    have lM0 := lt_blk hbM0
    have lR0 := lt_blk hbR0
    have hpW := HJ.out.1.lt
    clear hY EY HRZ HCZ HHZ hbS0 hbM0 hbR0
    refine wp_region_flowD [some 34, some 35, some 36, some 37, some 38, some 39, some 40, some 41, some 42, some 43, some 44, some 6, none] (fun a b => ChgT Y.heap.size [p] IsGst a b) (fun i a b => match i with | 12 => Turn Y.heap.size IsGst a b | _ => Chg [p] a b) (fun k9 w9 => Rdr lo p ((Q + 60) + 1 * k9) w9 ∧ Held [(S, IsWlk), (M, fun o => o = oMp m), (R, fun o => o = oGst ⟨0, 0, ⟨0, 0, 0, 0, 0⟩⟩)] w9) (fun i v9 w9 => match i with
      | 0 => v9 = .agg #[.int .i64 (m.c), .int .i64 (m.w)]
      | 1 => v9 = .pointer (some ⟨S, 1, none⟩)
      | 2 => ∃ x : Int, v9 = .int .i64 x
      | 3 => ∃ x : Int, v9 = .int .i64 x ∧ (-1 ≤ x ∧ x ≤ 3)
      | 4 => MkI Y.heap.size 5 (0) (7) (v9) w9
      | 5 => v9 = .pointer (some ⟨p, 0, none⟩)
      | 6 => InI 0 (4) (v9)
      | 7 => PtI Y.heap.size 5 (0) (7) (v9) w9
      | 8 => InI (0) (7) (v9)
      | 9 => InWu (v9)
      | 10 => InG (v9)
      | 11 => PtB Y.heap.size IsGst (v9) w9
      | _ => True) (by kernel_rfl) (by decide +kernel) (by simp) (fun a => ChgT.refl _ _ _ a) (fun a b c h k => ChgT.trans h k) ?_ (ChgT.of (Chg.drew (Chg.refl [] _)) (by simp)) ?_ ?_ ?_ ?_
    · intro i a b hi hG
      have hi9 : i < 13 := hi
      clear hi
      match i, hi9, hG with
      | 0, _, hG => exact ChgT.of hG (by simp; omega)
      | 1, _, hG => exact ChgT.of hG (by simp; omega)
      | 2, _, hG => exact ChgT.of hG (by simp; omega)
      | 3, _, hG => exact ChgT.of hG (by simp; omega)
      | 4, _, hG => exact ChgT.of hG (by simp; omega)
      | 5, _, hG => exact ChgT.of hG (by simp; omega)
      | 6, _, hG => exact ChgT.of hG (by simp; omega)
      | 7, _, hG => exact ChgT.of hG (by simp; omega)
      | 8, _, hG => exact ChgT.of hG (by simp; omega)
      | 9, _, hG => exact ChgT.of hG (by simp; omega)
      | 10, _, hG => exact ChgT.of hG (by simp; omega)
      | 11, _, hG => exact ChgT.of hG (by simp; omega)
      | 12, _, hG => exact Turn.chgT hG
      | n + 13, h9, _ => exact absurd h9 (by omega)
    · exact ⟨HJ.out.1.of zq0, HJ.out.2.drw⟩
    · intro i j hi hj hij v9 w9 w8 hg hS hG
      have hi9 : i < 13 := hi
      have hj9 : j < 13 := hj
      have hG0 := hG
      have hG2 : ChgT Y.heap.size [p] IsGst w9 w8 := by
        clear hG0 hij hi hj hS
        match i, hi9, hG with
        | 0, _, hG => exact ChgT.of hG (by simp; omega)
        | 1, _, hG => exact ChgT.of hG (by simp; omega)
        | 2, _, hG => exact ChgT.of hG (by simp; omega)
        | 3, _, hG => exact ChgT.of hG (by simp; omega)
        | 4, _, hG => exact ChgT.of hG (by simp; omega)
        | 5, _, hG => exact ChgT.of hG (by simp; omega)
        | 6, _, hG => exact ChgT.of hG (by simp; omega)
        | 7, _, hG => exact ChgT.of hG (by simp; omega)
        | 8, _, hG => exact ChgT.of hG (by simp; omega)
        | 9, _, hG => exact ChgT.of hG (by simp; omega)
        | 10, _, hG => exact ChgT.of hG (by simp; omega)
        | 11, _, hG => exact ChgT.of hG (by simp; omega)
        | 12, _, hG => exact Turn.chgT hG
        | n + 13, h9, _ => exact absurd h9 (by omega)
      clear hi hj hG
      match j, hj9 with
      | 0, _ => exact hS
      | 1, _ => exact hS
      | 2, _ => exact hS
      | 3, _ => exact hS
      | 4, _ => exact MkI.chgT hS hG2 noInt_Gst
      | 5, _ => exact hS
      | 6, _ => exact hS
      | 7, _ => exact PtI.chgT hS hG2 noInt_Gst
      | 8, _ => exact hS
      | 9, _ => exact hS
      | 10, _ => exact hS
      | 11, _ => exact PtB.chgT hS hG2
      | 12, _ => exact hS
      | n + 13, h9 => exact absurd h9 (by omega)
    · intro i oo ho σ k9 w9 hG hk9 hJ hd
      have HG := hid hG
      have HJ9 := hid hJ
      have hW9 := hG.size
      have hkN : k9 < 13 := hk9
      have hi9 : i < 13 := (List.getElem?_eq_some_iff.1 ho).1
      clear hG hJ hk9
      match i, hi9, ho with
      | 0, _, ho =>
        obtain ⟨_, hbm, rfl⟩ := HJ9.out.2.at (.tail _ (.head _))
        have cM0 := (cell_blk hbm 0).trans (show _ = some (Value.int .i64 m.c) from rfl)
        have cM1 := (cell_blk hbm 1).trans (show _ = some (Value.int .i64 m.w) from rfl)
        have zM0 := frozen_blk hbm 0
        have zM1 := frozen_blk hbm 1
        have lM9 := lt_blk hbm
        clear hbm
        obtain rfl := Option.some.inj ho
        clear hd ho
        simp only [actO, putO, List.setIfInBounds_toArray, List.set_cons_zero, List.set_cons_succ, Nat.reduceAdd]
        refine flow_K (fun K hK => ?_)
        go_simp
        (show K _ _)
        refine hK _ _ ⟨_, rfl, by simp, Chg.of_ext (show Ext _ _ from zq0) _, ⟨(HJ9.out.1.of (show Ext _ _ from zq0)).up (by omega), HJ9.out.2.of (show Ext _ _ from zq0)⟩, rfl⟩
      | 1, _, ho =>
        obtain rfl := Option.some.inj ho
        clear hd ho
        simp only [actO, putO, List.setIfInBounds_toArray, List.set_cons_zero, List.set_cons_succ, Nat.reduceAdd]
        refine flow_K (fun K hK => ?_)
        go_simp
        (show K _ _)
        refine hK _ _ ⟨_, rfl, by simp, Chg.of_ext (show Ext _ _ from zq0) _, ⟨(HJ9.out.1.of (show Ext _ _ from zq0)).up (by omega), HJ9.out.2.of (show Ext _ _ from zq0)⟩, rfl⟩
      | 2, _, ho =>
        have e1 : σ 1 = .pointer (some ⟨S, 1, none⟩) := hd 1 (by obtain rfl := Option.some.inj ho; kernel_rfl)
        obtain ⟨_, hb, x0, rfl⟩ := HJ9.out.2.at (.head _)
        have cU := (cell_blk hb 1).trans rfl
        have zU := frozen_blk hb 1
        have lU := lt_blk hb
        obtain rfl := Option.some.inj ho
        clear hd ho
        simp only [actO, putO, List.setIfInBounds_toArray, List.set_cons_zero, List.set_cons_succ, Nat.reduceAdd, e1]
        refine flow_K (fun K hK => ?_)
        go_simp
        (show K _ _)
        refine hK _ _ ⟨_, rfl, by simp, Chg.of_ext (show Ext _ _ from zq0) _, ⟨(HJ9.out.1.of (show Ext _ _ from zq0)).up (by omega), HJ9.out.2.of (show Ext _ _ from zq0)⟩, ⟨_, rfl⟩⟩
      | 3, _, ho =>
        have e0 : σ 0 = .agg #[.int .i64 (m.c), .int .i64 (m.w)] := hd 0 (by obtain rfl := Option.some.inj ho; kernel_rfl)
        obtain ⟨x2, e2⟩ : ∃ x : Int, σ 2 = .int .i64 x := hd 2 (by obtain rfl := Option.some.inj ho; kernel_rfl)
        obtain rfl := Option.some.inj ho
        clear hd ho
        simp only [actO, putO, List.setIfInBounds_toArray, List.set_cons_zero, List.set_cons_succ, Nat.reduceAdd, e0, e2]
        refine flow_K (fun K hK => ?_)
        have HRd := hid HJ9.out.1
        go_simp
        refine (sPlcCell_c m x2 w9).mono ?_
        rintro e w8 ⟨rfl, hE8⟩; have hC8 : Chg [p] w9 w8 := Chg.of_ext hE8 _; have hR8 := HJ9.out.1.of hE8
        (show K _ _)
        refine hK _ _ ⟨_, rfl, by simp, hC8, ⟨hR8.up (by omega), HJ9.out.2.chg hC8 (by simp; omega)⟩, ⟨_, rfl, plcCell_lo m _⟩⟩
      | 4, _, ho =>
        obtain rfl := Option.some.inj ho
        clear hd ho
        simp only [actO, putO, List.setIfInBounds_toArray, List.set_cons_zero, List.set_cons_succ, Nat.reduceAdd]
        refine flow_K (fun K hK => ?_)
        go_simp
        (show K _ _)
        refine hK _ _ ⟨_, rfl, by simp, Chg.of_ext (show Ext _ _ from zq0) _, ⟨(HJ9.out.1.of (show Ext _ _ from zq0)).up (by omega), HJ9.out.2.of (show Ext _ _ from zq0)⟩, ⟨_, rfl, by (try simp [go_sem]) <;> omega, ⟨_, heap_new (by simp [go_sem]), fun i hi => ?_⟩⟩⟩
        match i, hi with
        | 0, _ => exact ⟨0, rfl, by omega, by omega⟩
        | 1, _ => exact ⟨1, rfl, by omega, by omega⟩
        | 2, _ => exact ⟨2, rfl, by omega, by omega⟩
        | 3, _ => exact ⟨3, rfl, by omega, by omega⟩
        | 4, _ => exact ⟨7, rfl, by omega, by omega⟩
      | 5, _, ho =>
        obtain rfl := Option.some.inj ho
        clear hd ho
        simp only [actO, putO, List.setIfInBounds_toArray, List.set_cons_zero, List.set_cons_succ, Nat.reduceAdd]
        refine flow_K (fun K hK => ?_)
        go_simp
        (show K _ _)
        refine hK _ _ ⟨_, rfl, by simp, Chg.of_ext (show Ext _ _ from zq0) _, ⟨(HJ9.out.1.of (show Ext _ _ from zq0)).up (by omega), HJ9.out.2.of (show Ext _ _ from zq0)⟩, rfl⟩
      | 6, _, ho =>
        have e5 : σ 5 = .pointer (some ⟨p, 0, none⟩) := hd 5 (by obtain rfl := Option.some.inj ho; kernel_rfl)
        obtain rfl := Option.some.inj ho
        clear hd ho
        simp only [actO, putO, List.setIfInBounds_toArray, List.set_cons_zero, List.set_cons_succ, Nat.reduceAdd, e5]
        refine flow_K (fun K hK => ?_)
        have HRd := hid HJ9.out.1
        go_simp
        refine (pick_c lo p _ (5) w9 HRd.out (by omega) (by omega) (by omega)).mono ?_
        rintro e w8 ⟨vv, rfl, hv0, hv1, hR8, hC8⟩
        (show K _ _)
        refine hK _ _ ⟨_, rfl, by simp, hC8, ⟨hR8.up (by omega), HJ9.out.2.chg hC8 (by simp; omega)⟩, ⟨vv, rfl, hv0, by omega⟩⟩
      | 7, _, ho =>
        obtain ⟨b4, e4, hb4, ha4⟩ : MkI Y.heap.size 5 (0) (7) (σ 4) _ := hd 4 (by obtain rfl := Option.some.inj ho; kernel_rfl)
        obtain ⟨x6, e6, y6, z6⟩ : InI 0 (4) (σ 6) := hd 6 (by obtain rfl := Option.some.inj ho; kernel_rfl)
        obtain ⟨i6, rfl⟩ : ∃ i : Nat, x6 = (i : Int) := ⟨x6.toNat, by omega⟩
        have hin : i6 < 5 := by omega
        have hin2 : (i6 : Int) < 5 := by omega
        obtain rfl := Option.some.inj ho
        clear hd ho
        simp only [actO, putO, List.setIfInBounds_toArray, List.set_cons_zero, List.set_cons_succ, Nat.reduceAdd, e4, e6]
        refine flow_K (fun K hK => ?_)
        go_simp
        (show K _ _)
        refine hK _ _ ⟨_, rfl, by simp, Chg.of_ext (show Ext _ _ from zq0) _, ⟨(HJ9.out.1.of (show Ext _ _ from zq0)).up (by omega), HJ9.out.2.of (show Ext _ _ from zq0)⟩, ⟨_, _, rfl, hin, hb4, ha4⟩⟩
      | 8, _, ho =>
        obtain ⟨b7, k7, e7, hk7, hb7, ha7⟩ : PtI Y.heap.size 5 (0) (7) (σ 7) _ := hd 7 (by obtain rfl := Option.some.inj ho; kernel_rfl)
        obtain ⟨y, hy, hy0, hy1⟩ := index_at ha7 hk7
        obtain rfl := Option.some.inj ho
        clear hd ho
        simp only [actO, putO, List.setIfInBounds_toArray, List.set_cons_zero, List.set_cons_succ, Nat.reduceAdd, e7]
        refine flow_K (fun K hK => ?_)
        go_simp
        (show K _ _)
        refine hK _ _ ⟨_, rfl, by simp, Chg.of_ext (show Ext _ _ from zq0) _, ⟨(HJ9.out.1.of (show Ext _ _ from zq0)).up (by omega), HJ9.out.2.of (show Ext _ _ from zq0)⟩, ⟨y, rfl, hy0, hy1⟩⟩
      | 9, _, ho =>
        obtain ⟨_, hb, x0, rfl⟩ := HJ9.out.2.at (.head _)
        have cU0 := (cell_blk hb 0).trans (show _ = some (Value.int .i64 x0.id) from rfl)
        have zU0 := frozen_blk hb 0
        have cU1 := (cell_blk hb 1).trans (show _ = some (Value.int .i64 x0.at_) from rfl)
        have zU1 := frozen_blk hb 1
        have cU2 := (cell_blk hb 2).trans (show _ = some (Value.int .i64 x0.coins) from rfl)
        have zU2 := frozen_blk hb 2
        have cU3 := (cell_blk hb 3).trans (show _ = some (Value.int .i64 x0.seq) from rfl)
        have zU3 := frozen_blk hb 3
        have cU4 := (cell_blk hb 4).trans (show _ = some (Value.int .i64 x0.last) from rfl)
        have zU4 := frozen_blk hb 4
        have lU := lt_blk hb
        clear hb
        obtain rfl := Option.some.inj ho
        clear hd ho
        simp only [actO, putO, List.setIfInBounds_toArray, List.set_cons_zero, List.set_cons_succ, Nat.reduceAdd]
        refine flow_K (fun K hK => ?_)
        go_simp
        (show K _ _)
        refine hK _ _ ⟨_, rfl, by simp, Chg.of_ext (show Ext _ _ from zq0) _, ⟨(HJ9.out.1.of (show Ext _ _ from zq0)).up (by omega), HJ9.out.2.of (show Ext _ _ from zq0)⟩, ⟨x0, rfl, trivial⟩⟩
      | 10, _, ho =>
        obtain ⟨x3, e3, h3⟩ : ∃ x : Int, σ 3 = .int .i64 x ∧ (-1 ≤ x ∧ x ≤ 3) := hd 3 (by obtain rfl := Option.some.inj ho; kernel_rfl)
        obtain ⟨x8, e8, y8, z8⟩ : InI (0) (7) (σ 8) := hd 8 (by obtain rfl := Option.some.inj ho; kernel_rfl)
        obtain ⟨x9, e9, h9⟩ : InWu (σ 9) := hd 9 (by obtain rfl := Option.some.inj ho; kernel_rfl)
        obtain rfl := Option.some.inj ho
        clear hd ho
        simp only [actO, putO, List.setIfInBounds_toArray, List.set_cons_zero, List.set_cons_succ, Nat.reduceAdd, e3, e8, e9]
        refine flow_K (fun K hK => ?_)
        go_simp
        (show K _ _)
        refine hK _ _ ⟨_, rfl, by simp, Chg.of_ext (show Ext _ _ from zq0) _, ⟨(HJ9.out.1.of (show Ext _ _ from zq0)).up (by omega), HJ9.out.2.of (show Ext _ _ from zq0)⟩, ⟨⟨x3, x8, x9⟩, rfl, trivial⟩⟩
      | 11, _, ho =>
        obtain rfl := Option.some.inj ho
        clear hd ho
        simp only [actO, putO, List.setIfInBounds_toArray, List.set_cons_zero, List.set_cons_succ, Nat.reduceAdd]
        refine flow_K (fun K hK => ?_)
        go_simp
        (show K _ _)
        refine hK _ _ ⟨_, rfl, by simp, Chg.of_ext (show Ext _ _ from zq0) _, ⟨(HJ9.out.1.of (show Ext _ _ from zq0)).up (by omega), HJ9.out.2.of (show Ext _ _ from zq0)⟩, ⟨_, rfl, by (try simp [go_sem]) <;> omega, _, heap_new (by simp [go_sem]), ⟨⟨0, 0, ⟨0, 0, 0, 0, 0⟩⟩, rfl⟩⟩⟩
      | 12, _, ho =>
        obtain ⟨b11, e11, hb11, _, ho11, x11, rfl⟩ : PtB Y.heap.size IsGst (σ 11) _ := hd 11 (by obtain rfl := Option.some.inj ho; kernel_rfl)
        obtain ⟨x10, e10, h10⟩ : InG (σ 10) := hd 10 (by obtain rfl := Option.some.inj ho; kernel_rfl)
        have cR0 := (cell_blk ho11 0).trans rfl
        have zR0 := frozen_blk ho11 0
        have cR1 := (cell_blk ho11 1).trans rfl
        have zR1 := frozen_blk ho11 1
        have cR2 := (cell_blk ho11 2).trans rfl
        have zR2 := frozen_blk ho11 2
        have cR3 := (cell_blk ho11 3).trans rfl
        have zR3 := frozen_blk ho11 3
        have cR4 := (cell_blk ho11 4).trans rfl
        have zR4 := frozen_blk ho11 4
        have cR5 := (cell_blk ho11 5).trans rfl
        have zR5 := frozen_blk ho11 5
        have cR6 := (cell_blk ho11 6).trans rfl
        have zR6 := frozen_blk ho11 6
        have lR9 := lt_blk ho11
        have HB0 := hid ho11
        clear ho11
        obtain rfl := Option.some.inj ho
        clear hd ho
        simp only [actO, putO, List.setIfInBounds_toArray, List.set_cons_zero, List.set_cons_succ, Nat.reduceAdd, e11, e10]
        refine flow_K (fun K hK => ?_)
        go_simp
        (show K _ _)
        refine hK _ _ ⟨undef, rfl, fun _ => rfl, ⟨b11, _, oGst x10, hb11, HB0.out, gst_store (x := x10) HB0.out, ⟨_, rfl⟩, ⟨_, rfl⟩, zq1⟩, ⟨(HJ9.out.1.chg (B := [b11]) zq1 (by simp; omega) (Nat.le_refl _)).up (by omega), HJ9.out.2.chg (B := [b11]) zq1 (by simp; omega)⟩, trivial⟩
    · intro σ w9 hG hJ hd
      have e0 : σ 0 = .agg #[.int .i64 (m.c), .int .i64 (m.w)] := hd 0 (by decide)
      have e1 : σ 1 = .pointer (some ⟨S, 1, none⟩) := hd 1 (by decide)
      obtain ⟨x2, e2⟩ : ∃ x : Int, σ 2 = .int .i64 x := hd 2 (by decide)
      obtain ⟨x3, e3, h3⟩ : ∃ x : Int, σ 3 = .int .i64 x ∧ (-1 ≤ x ∧ x ≤ 3) := hd 3 (by decide)
      obtain ⟨b4, e4, hb4, ha4⟩ : MkI Y.heap.size 5 (0) (7) (σ 4) _ := hd 4 (by decide)
      have e5 : σ 5 = .pointer (some ⟨p, 0, none⟩) := hd 5 (by decide)
      obtain ⟨x6, e6, y6, z6⟩ : InI 0 (4) (σ 6) := hd 6 (by decide)
      obtain ⟨b7, k7, e7, hk7, hb7, ha7⟩ : PtI Y.heap.size 5 (0) (7) (σ 7) _ := hd 7 (by decide)
      obtain ⟨x8, e8, y8, z8⟩ : InI (0) (7) (σ 8) := hd 8 (by decide)
      obtain ⟨x9, e9, h9⟩ : InWu (σ 9) := hd 9 (by decide)
      obtain ⟨x10, e10, h10⟩ : InG (σ 10) := hd 10 (by decide)
      obtain ⟨b11, e11, hb11, _, ho11, x11, rfl⟩ : PtB Y.heap.size IsGst (σ 11) _ := hd 11 (by decide)
      have HG := hid hG
      have HJ9 := hid (show Rdr lo p ((Q + 60) + 1 * 13) w9 ∧ Held [(S, IsWlk), (M, fun o => o = oMp m), (R, fun o => o = oGst ⟨0, 0, ⟨0, 0, 0, 0, 0⟩⟩)] w9 from hJ)
      clear hd hG hJ
      simp only [actO, putO, List.setIfInBounds_toArray, List.set_cons_zero, List.set_cons_succ, Nat.reduceAdd, e0, e1, e2, e3, e4, e5, e6, e7, e8, e9, e10, e11]
      clear e0 e1 e2 e3 e4 e5 e6 e7 e8 e9 e10 e11
      have HRW := hid HJ9.out.1
      have HHW := hid HJ9.out.2
      have HCW := hid (HCY.out.trans (HG.out.chg rfl))
      obtain ⟨G, hGe⟩ : ∃ G, b11 = G := ⟨_, rfl⟩
      rw [hGe] at hb11 ho11 ⊢
      have HOW := hid ho11
      have hGp : G ≠ p := by omega
      have hGR : G ≠ R := by omega
      have hRG : R ≠ G := by omega
      have hwG : w.heap.size ≤ G := by have := HCY.out.size; omega
      obtain ⟨g, hge⟩ : ∃ g, x11 = g := ⟨_, rfl⟩
      rw [hge] at HOW
      clear HG HJ9 HJ HCY ho11 hGe hge
      try go_wp2_with (first
          | fail
          | (
            with_reducible refine wp_region_mix (by kernel_rfl) (by decide +kernel) ?_
            repeat (first
              | (refine mix_pure rfl ?_; (first | go_big_quiet_skip | (go_big_quiet_want; go_big_quiet_op; go_big_quiet_on)); refine wpQuiet_nil ?_)
              | (refine mix_skip (by rfl) ?_; (try simp only [Act.put, List.setIfInBounds_toArray, List.set_cons_zero, List.set_cons_succ]))
              | (refine mix_mk rfl (by rfl) (fun K hK => ?_); (first | (go_simp; first | skip)); (show K _ _); refine hK _ _ (show Ext _ _ from zq0) ?_; clear hK K; (try simp only [Act.put, List.setIfInBounds_toArray, List.set_cons_zero, List.set_cons_succ])))
            refine mix_nil ?_)
          | (
            with_reducible refine wp_region_ext (by kernel_rfl) (by kernel_rfl) ?_
            repeat (first | go_big_quiet_skip | (go_big_quiet_want; go_big_quiet_op; first | go_big_quiet_on | (apply Exists.intro; refine ⟨fun _ => ?_, ?_⟩; (fail); (try rw [h1]); (try rw [h2]); (try rw [h3]); (try rw [h4]); (try rw [p1]); (try rw [p2]); (try rw [p3]); (try rw [p4]); (try rw [r1]); (try rw [r2]); (try rw [r3]); (try rw [r4]); (try rw [r5]); (try rw [r6]); (try rw [q3]); (try rw [q4]); (try rw [hp]); (try rw [hq]); go_big_quiet_on)))
            refine wpQuiet_nil ?_
            rintro _ ⟨tq, rfl⟩))
      refine calls_gen fun X hX => ?_
      have EX : Ext w9 X := by rw [hX]; ((try simp only [ext_drew]); (try simp only [ext_ext]); repeat (first | exact Ext.refl _ | with_reducible apply Ext.add | with_reducible apply Ext.dr | apply Ext.alloc | apply Ext.ext | apply Ext.drew | refine Ext.trans ?_ (by assumption)))
      have bg := (EX.block (lt_blk HOW.out)).trans HOW.out
      have HHX := hid (HHW.out.of EX)
      have HRX := hid (HRW.out.of EX)
      have HCX := hid (HCW.out.trans (Chg.of_ext EX [p]))
      clear hX EX HRW HHW HCW HOW
      refine (pick_c lo p _ 20 X HRX.out (by omega) (by omega) (by omega)).mono ?_
      rintro e Z ⟨v, rfl, hv0, hv1, hRZ, hCZ⟩
      have HOZ := hid ((hCZ.block G (lt_blk bg) (by simpa using hGp)).trans bg)
      have HHZ := hid (HHX.out.chg hCZ (by simp; omega))
      have HRZ := hid (hRZ.up (show _ ≤ Q + 80 by omega))
      have HCZ := hid (HCX.out.trans hCZ)
      obtain ⟨_, hbR, rfl⟩ := HHZ.out.at (.tail _ (.tail _ (.head _)))
      have bgZ := HOZ.out
      have cg0 : Z.cell? ⟨G, 0, none⟩ = some (.int .i64 g.src) := (cell_blk bgZ 0).trans rfl
      have cg1 : Z.cell? ⟨G, 1, none⟩ = some (.int .i64 g.count) := (cell_blk bgZ 1).trans rfl
      have cg2 : Z.cell? ⟨G, 2, none⟩ = some (.int .i64 g.wk.id) := (cell_blk bgZ 2).trans rfl
      have cg3 : Z.cell? ⟨G, 3, none⟩ = some (.int .i64 g.wk.at_) := (cell_blk bgZ 3).trans rfl
      have cg4 : Z.cell? ⟨G, 4, none⟩ = some (.int .i64 g.wk.coins) := (cell_blk bgZ 4).trans rfl
      have cg5 : Z.cell? ⟨G, 5, none⟩ = some (.int .i64 g.wk.seq) := (cell_blk bgZ 5).trans rfl
      have cg6 : Z.cell? ⟨G, 6, none⟩ = some (.int .i64 g.wk.last) := (cell_blk bgZ 6).trans rfl
      have zcg0 := frozen_blk bgZ 0
      have zcg1 := frozen_blk bgZ 1
      have zcg2 := frozen_blk bgZ 2
      have zcg3 := frozen_blk bgZ 3
      have zcg4 := frozen_blk bgZ 4
      have zcg5 := frozen_blk bgZ 5
      have zcg6 := frozen_blk bgZ 6
      have cr0 : Z.cell? ⟨R, 0, none⟩ = some (.int .i64 0) := (cell_blk hbR 0).trans rfl
      have cr1 : Z.cell? ⟨R, 1, none⟩ = some (.int .i64 0) := (cell_blk hbR 1).trans rfl
      have cr2 : Z.cell? ⟨R, 2, none⟩ = some (.int .i64 0) := (cell_blk hbR 2).trans rfl
      have cr3 : Z.cell? ⟨R, 3, none⟩ = some (.int .i64 0) := (cell_blk hbR 3).trans rfl
      have cr4 : Z.cell? ⟨R, 4, none⟩ = some (.int .i64 0) := (cell_blk hbR 4).trans rfl
      have cr5 : Z.cell? ⟨R, 5, none⟩ = some (.int .i64 0) := (cell_blk hbR 5).trans rfl
      have cr6 : Z.cell? ⟨R, 6, none⟩ = some (.int .i64 0) := (cell_blk hbR 6).trans rfl
      have zcr0 := frozen_blk hbR 0
      have zcr1 := frozen_blk hbR 1
      have zcr2 := frozen_blk hbR 2
      have zcr3 := frozen_blk hbR 3
      have zcr4 := frozen_blk hbR 4
      have zcr5 := frozen_blk hbR 5
      have zcr6 := frozen_blk hbR 6
      have lg := lt_blk bgZ
      have lr := lt_blk hbR
      clear bg hRZ hCZ HRX HHX HCX bgZ hbR
      by_cases h0 : v = 0
      · subst h0
        clear cg0 cg1 cg2 cg3 cg4 cg5 cg6 zcg0 zcg1 zcg2 zcg3 zcg4 zcg5 zcg6 cr0 cr1 cr2 cr3 cr4 cr5 cr6 zcr0 zcr1 zcr2 zcr3 zcr4 zcr5 zcr6 lg lr
        try go_wp2_with (first
            | fail
            | (
              with_reducible refine wp_region_mix (by kernel_rfl) (by decide +kernel) ?_
              repeat (first
                | (refine mix_pure rfl ?_; (first | go_big_quiet_skip | (go_big_quiet_want; go_big_quiet_op; go_big_quiet_on)); refine wpQuiet_nil ?_)
                | (refine mix_skip (by rfl) ?_; (try simp only [Act.put, List.setIfInBounds_toArray, List.set_cons_zero, List.set_cons_succ]))
                | (refine mix_mk rfl (by rfl) (fun K hK => ?_); (first | (go_simp; first | skip)); (show K _ _); refine hK _ _ (show Ext _ _ from zq0) ?_; clear hK K; (try simp only [Act.put, List.setIfInBounds_toArray, List.set_cons_zero, List.set_cons_succ])))
              refine mix_nil ?_)
            | (
              with_reducible refine wp_region_ext (by kernel_rfl) (by kernel_rfl) ?_
              repeat (first | go_big_quiet_skip | (go_big_quiet_want; go_big_quiet_op; first | go_big_quiet_on | (apply Exists.intro; refine ⟨fun _ => ?_, ?_⟩; (fail); (try rw [h1]); (try rw [h2]); (try rw [h3]); (try rw [h4]); (try rw [p1]); (try rw [p2]); (try rw [p3]); (try rw [p4]); (try rw [r1]); (try rw [r2]); (try rw [r3]); (try rw [r4]); (try rw [r5]); (try rw [r6]); (try rw [q3]); (try rw [q4]); (try rw [hp]); (try rw [hq]); go_big_quiet_on)))
              refine wpQuiet_nil ?_
              rintro _ ⟨tq, rfl⟩))
        refine calls_gen fun X hX => ?_
        obtain ⟨A, hA⟩ : ∃ A, Z.heap.size = A := ⟨_, rfl⟩
        have EX : Ext Z X := by rw [hX]; ((try simp only [ext_drew]); (try simp only [ext_ext]); repeat (first | exact Ext.refl _ | with_reducible apply Ext.add | with_reducible apply Ext.dr | apply Ext.alloc | apply Ext.ext | apply Ext.drew | refine Ext.trans ?_ (by assumption)))
        have ba : X.heap[A]? = some (.cells #[.int .i64 (-1), .int .i64 4, .int .i64 0, .int .i64 1] 3 (0, 0)) := by rw [hX, ← hA]; exact zq3
        have HHX := hid (HHZ.out.of EX)
        have bg := (EX.block (lt_blk HOZ.out)).trans HOZ.out
        have HRX := hid (HRZ.out.of EX)
        have HCX := hid (HCZ.out.trans (Chg.of_ext EX [p]))
        have lpZ := HRZ.out.lt
        rw [hA]
        have hAp : A ≠ p := by omega
        clear hX EX hA HRZ HCZ HHZ HOZ
        refine (pick_c lo p _ 4 X HRX.out (by omega) (by omega) (by omega)).mono ?_
        rintro e V ⟨v, rfl, hv0', hv1', hRV, hCV⟩
        obtain ⟨i, rfl⟩ : ∃ i : Nat, v = (i : Int) := ⟨v.toNat, by omega⟩
        have baV := (hCV.block A (lt_blk ba) (by simpa using hAp)).trans ba
        have bgV := (hCV.block G (lt_blk bg) (by simpa using hGp)).trans bg
        obtain ⟨_, hbR, rfl⟩ := (HHX.out.chg hCV (by simp; omega)).at (.tail _ (.tail _ (.head _)))
        obtain ⟨y, hyx, hyc⟩ := arr_at (xs := [-1, 4, 0, 1]) (i := i) baV (by simp; omega)
        have HRV := hid hRV
        have HCV := hid (HCX.out.trans hCV)
        have la := lt_blk baV
        have za := frozen_blk baV i
        have hin : (i : Int) < 4 := by omega
        have cg0 : V.cell? ⟨G, 0, none⟩ = some (.int .i64 g.src) := (cell_blk bgV 0).trans rfl
        have cg1 : V.cell? ⟨G, 1, none⟩ = some (.int .i64 g.count) := (cell_blk bgV 1).trans rfl
        have cg2 : V.cell? ⟨G, 2, none⟩ = some (.int .i64 g.wk.id) := (cell_blk bgV 2).trans rfl
        have cg3 : V.cell? ⟨G, 3, none⟩ = some (.int .i64 g.wk.at_) := (cell_blk bgV 3).trans rfl
        have cg4 : V.cell? ⟨G, 4, none⟩ = some (.int .i64 g.wk.coins) := (cell_blk bgV 4).trans rfl
        have cg5 : V.cell? ⟨G, 5, none⟩ = some (.int .i64 g.wk.seq) := (cell_blk bgV 5).trans rfl
        have cg6 : V.cell? ⟨G, 6, none⟩ = some (.int .i64 g.wk.last) := (cell_blk bgV 6).trans rfl
        have zcg0 := frozen_blk bgV 0
        have zcg1 := frozen_blk bgV 1
        have zcg2 := frozen_blk bgV 2
        have zcg3 := frozen_blk bgV 3
        have zcg4 := frozen_blk bgV 4
        have zcg5 := frozen_blk bgV 5
        have zcg6 := frozen_blk bgV 6
        have cr0 : V.cell? ⟨R, 0, none⟩ = some (.int .i64 0) := (cell_blk hbR 0).trans rfl
        have cr1 : V.cell? ⟨R, 1, none⟩ = some (.int .i64 0) := (cell_blk hbR 1).trans rfl
        have cr2 : V.cell? ⟨R, 2, none⟩ = some (.int .i64 0) := (cell_blk hbR 2).trans rfl
        have cr3 : V.cell? ⟨R, 3, none⟩ = some (.int .i64 0) := (cell_blk hbR 3).trans rfl
        have cr4 : V.cell? ⟨R, 4, none⟩ = some (.int .i64 0) := (cell_blk hbR 4).trans rfl
        have cr5 : V.cell? ⟨R, 5, none⟩ = some (.int .i64 0) := (cell_blk hbR 5).trans rfl
        have cr6 : V.cell? ⟨R, 6, none⟩ = some (.int .i64 0) := (cell_blk hbR 6).trans rfl
        have zcr0 := frozen_blk hbR 0
        have zcr1 := frozen_blk hbR 1
        have zcr2 := frozen_blk hbR 2
        have zcr3 := frozen_blk hbR 3
        have zcr4 := frozen_blk hbR 4
        have zcr5 := frozen_blk hbR 5
        have zcr6 := frozen_blk hbR 6
        have lg := lt_blk bgV
        have lr := lt_blk hbR
        clear ba bg baV bgV hbR hRV hCV HRX HCX HHX hyx
        try go_wp2_with (first
            | fail
            | (
              with_reducible refine wp_region_mix (by kernel_rfl) (by decide +kernel) ?_
              repeat (first
                | (refine mix_pure rfl ?_; (first | go_big_quiet_skip | (go_big_quiet_want; go_big_quiet_op; go_big_quiet_on)); refine wpQuiet_nil ?_)
                | (refine mix_skip (by rfl) ?_; (try simp only [Act.put, List.setIfInBounds_toArray, List.set_cons_zero, List.set_cons_succ]))
                | (refine mix_mk rfl (by rfl) (fun K hK => ?_); (first | (go_simp; first | skip)); (show K _ _); refine hK _ _ (show Ext _ _ from zq0) ?_; clear hK K; (try simp only [Act.put, List.setIfInBounds_toArray, List.set_cons_zero, List.set_cons_succ])))
              refine mix_nil ?_)
            | (
              with_reducible refine wp_region_ext (by kernel_rfl) (by kernel_rfl) ?_
              repeat (first | go_big_quiet_skip | (go_big_quiet_want; go_big_quiet_op; first | go_big_quiet_on | (apply Exists.intro; refine ⟨fun _ => ?_, ?_⟩; (fail); (try rw [h1]); (try rw [h2]); (try rw [h3]); (try rw [h4]); (try rw [p1]); (try rw [p2]); (try rw [p3]); (try rw [p4]); (try rw [r1]); (try rw [r2]); (try rw [r3]); (try rw [r4]); (try rw [r5]); (try rw [r6]); (try rw [q3]); (try rw [q4]); (try rw [hp]); (try rw [hq]); go_big_quiet_on)))
              refine wpQuiet_nil ?_
              rintro _ ⟨tq, rfl⟩))
        refine bodyPost_ret (v := .agg #[.int .i64 (({ g with src := y })).src, .int .i64 (({ g with src := y })).count, .int .i64 (({ g with src := y })).wk.id, .int .i64 (({ g with src := y })).wk.at_, .int .i64 (({ g with src := y })).wk.coins, .int .i64 (({ g with src := y })).wk.seq, .int .i64 (({ g with src := y })).wk.last]) (by simp [results, Try.results79, go_sem, cg0, cg1, cg2, cg3, cg4, cg5, cg6, cr0, cr1, cr2, cr3, cr4, cr5, cr6, lg, lr, hGR, hRG]) rfl ?_
        exact ⟨{ g with src := y }, rfl, (HRV.out.chg (B := [G, R]) zq2 (by simp; omega) (Nat.le_refl _)).up (by omega), Chg.fin (B := [G, R]) ((HCV.out.mono (B' := [p, G, R]) (by simp)).trans zq2) (by simp; omega)⟩
      · have q0 : (v == 0) = false := beq_f h0
        by_cases h1 : v = 1
        · subst h1
          clear cg0 cg1 cg2 cg3 cg4 cg5 cg6 zcg0 zcg1 zcg2 zcg3 zcg4 zcg5 zcg6 cr0 cr1 cr2 cr3 cr4 cr5 cr6 zcr0 zcr1 zcr2 zcr3 zcr4 zcr5 zcr6 lg lr h0 q0
          try go_wp2_with (first
              | fail
              | (
                with_reducible refine wp_region_mix (by kernel_rfl) (by decide +kernel) ?_
                repeat (first
                  | (refine mix_pure rfl ?_; (first | go_big_quiet_skip | (go_big_quiet_want; go_big_quiet_op; go_big_quiet_on)); refine wpQuiet_nil ?_)
                  | (refine mix_skip (by rfl) ?_; (try simp only [Act.put, List.setIfInBounds_toArray, List.set_cons_zero, List.set_cons_succ]))
                  | (refine mix_mk rfl (by rfl) (fun K hK => ?_); (first | (go_simp; first | skip)); (show K _ _); refine hK _ _ (show Ext _ _ from zq0) ?_; clear hK K; (try simp only [Act.put, List.setIfInBounds_toArray, List.set_cons_zero, List.set_cons_succ])))
                refine mix_nil ?_)
              | (
                with_reducible refine wp_region_ext (by kernel_rfl) (by kernel_rfl) ?_
                repeat (first | go_big_quiet_skip | (go_big_quiet_want; go_big_quiet_op; first | go_big_quiet_on | (apply Exists.intro; refine ⟨fun _ => ?_, ?_⟩; (fail); (try rw [h1]); (try rw [h2]); (try rw [h3]); (try rw [h4]); (try rw [p1]); (try rw [p2]); (try rw [p3]); (try rw [p4]); (try rw [r1]); (try rw [r2]); (try rw [r3]); (try rw [r4]); (try rw [r5]); (try rw [r6]); (try rw [q3]); (try rw [q4]); (try rw [hp]); (try rw [hq]); go_big_quiet_on)))
                refine wpQuiet_nil ?_
                rintro _ ⟨tq, rfl⟩))
          refine calls_gen fun X hX => ?_
          obtain ⟨A, hA⟩ : ∃ A, Z.heap.size = A := ⟨_, rfl⟩
          have EX : Ext Z X := by rw [hX]; ((try simp only [ext_drew]); (try simp only [ext_ext]); repeat (first | exact Ext.refl _ | with_reducible apply Ext.add | with_reducible apply Ext.dr | apply Ext.alloc | apply Ext.ext | apply Ext.drew | refine Ext.trans ?_ (by assumption)))
          have ba : X.heap[A]? = some (.cells #[.int .i64 (-1), .int .i64 250, .int .i64 251] 3 (0, 0)) := by rw [hX, ← hA]; exact zq3
          have HHX := hid (HHZ.out.of EX)
          have bg := (EX.block (lt_blk HOZ.out)).trans HOZ.out
          have HRX := hid (HRZ.out.of EX)
          have HCX := hid (HCZ.out.trans (Chg.of_ext EX [p]))
          have lpZ := HRZ.out.lt
          rw [hA]
          have hAp : A ≠ p := by omega
          clear hX EX hA HRZ HCZ HHZ HOZ
          refine (pick_c lo p _ 3 X HRX.out (by omega) (by omega) (by omega)).mono ?_
          rintro e V ⟨v, rfl, hv0', hv1', hRV, hCV⟩
          obtain ⟨i, rfl⟩ : ∃ i : Nat, v = (i : Int) := ⟨v.toNat, by omega⟩
          have baV := (hCV.block A (lt_blk ba) (by simpa using hAp)).trans ba
          have bgV := (hCV.block G (lt_blk bg) (by simpa using hGp)).trans bg
          obtain ⟨_, hbR, rfl⟩ := (HHX.out.chg hCV (by simp; omega)).at (.tail _ (.tail _ (.head _)))
          obtain ⟨y, hyx, hyc⟩ := arr_at (xs := [-1, 250, 251]) (i := i) baV (by simp; omega)
          have HRV := hid hRV
          have HCV := hid (HCX.out.trans hCV)
          have la := lt_blk baV
          have za := frozen_blk baV i
          have hin : (i : Int) < 3 := by omega
          have cg0 : V.cell? ⟨G, 0, none⟩ = some (.int .i64 g.src) := (cell_blk bgV 0).trans rfl
          have cg1 : V.cell? ⟨G, 1, none⟩ = some (.int .i64 g.count) := (cell_blk bgV 1).trans rfl
          have cg2 : V.cell? ⟨G, 2, none⟩ = some (.int .i64 g.wk.id) := (cell_blk bgV 2).trans rfl
          have cg3 : V.cell? ⟨G, 3, none⟩ = some (.int .i64 g.wk.at_) := (cell_blk bgV 3).trans rfl
          have cg4 : V.cell? ⟨G, 4, none⟩ = some (.int .i64 g.wk.coins) := (cell_blk bgV 4).trans rfl
          have cg5 : V.cell? ⟨G, 5, none⟩ = some (.int .i64 g.wk.seq) := (cell_blk bgV 5).trans rfl
          have cg6 : V.cell? ⟨G, 6, none⟩ = some (.int .i64 g.wk.last) := (cell_blk bgV 6).trans rfl
          have zcg0 := frozen_blk bgV 0
          have zcg1 := frozen_blk bgV 1
          have zcg2 := frozen_blk bgV 2
          have zcg3 := frozen_blk bgV 3
          have zcg4 := frozen_blk bgV 4
          have zcg5 := frozen_blk bgV 5
          have zcg6 := frozen_blk bgV 6
          have cr0 : V.cell? ⟨R, 0, none⟩ = some (.int .i64 0) := (cell_blk hbR 0).trans rfl
          have cr1 : V.cell? ⟨R, 1, none⟩ = some (.int .i64 0) := (cell_blk hbR 1).trans rfl
          have cr2 : V.cell? ⟨R, 2, none⟩ = some (.int .i64 0) := (cell_blk hbR 2).trans rfl
          have cr3 : V.cell? ⟨R, 3, none⟩ = some (.int .i64 0) := (cell_blk hbR 3).trans rfl
          have cr4 : V.cell? ⟨R, 4, none⟩ = some (.int .i64 0) := (cell_blk hbR 4).trans rfl
          have cr5 : V.cell? ⟨R, 5, none⟩ = some (.int .i64 0) := (cell_blk hbR 5).trans rfl
          have cr6 : V.cell? ⟨R, 6, none⟩ = some (.int .i64 0) := (cell_blk hbR 6).trans rfl
          have zcr0 := frozen_blk hbR 0
          have zcr1 := frozen_blk hbR 1
          have zcr2 := frozen_blk hbR 2
          have zcr3 := frozen_blk hbR 3
          have zcr4 := frozen_blk hbR 4
          have zcr5 := frozen_blk hbR 5
          have zcr6 := frozen_blk hbR 6
          have lg := lt_blk bgV
          have lr := lt_blk hbR
          clear ba bg baV bgV hbR hRV hCV HRX HCX HHX hyx
          try go_wp2_with (first
              | fail
              | (
                with_reducible refine wp_region_mix (by kernel_rfl) (by decide +kernel) ?_
                repeat (first
                  | (refine mix_pure rfl ?_; (first | go_big_quiet_skip | (go_big_quiet_want; go_big_quiet_op; go_big_quiet_on)); refine wpQuiet_nil ?_)
                  | (refine mix_skip (by rfl) ?_; (try simp only [Act.put, List.setIfInBounds_toArray, List.set_cons_zero, List.set_cons_succ]))
                  | (refine mix_mk rfl (by rfl) (fun K hK => ?_); (first | (go_simp; first | skip)); (show K _ _); refine hK _ _ (show Ext _ _ from zq0) ?_; clear hK K; (try simp only [Act.put, List.setIfInBounds_toArray, List.set_cons_zero, List.set_cons_succ])))
                refine mix_nil ?_)
              | (
                with_reducible refine wp_region_ext (by kernel_rfl) (by kernel_rfl) ?_
                repeat (first | go_big_quiet_skip | (go_big_quiet_want; go_big_quiet_op; first | go_big_quiet_on | (apply Exists.intro; refine ⟨fun _ => ?_, ?_⟩; (fail); (try rw [h1]); (try rw [h2]); (try rw [h3]); (try rw [h4]); (try rw [p1]); (try rw [p2]); (try rw [p3]); (try rw [p4]); (try rw [r1]); (try rw [r2]); (try rw [r3]); (try rw [r4]); (try rw [r5]); (try rw [r6]); (try rw [q3]); (try rw [q4]); (try rw [hp]); (try rw [hq]); go_big_quiet_on)))
                refine wpQuiet_nil ?_
                rintro _ ⟨tq, rfl⟩))
          refine bodyPost_ret (v := .agg #[.int .i64 (({ g with count := y })).src, .int .i64 (({ g with count := y })).count, .int .i64 (({ g with count := y })).wk.id, .int .i64 (({ g with count := y })).wk.at_, .int .i64 (({ g with count := y })).wk.coins, .int .i64 (({ g with count := y })).wk.seq, .int .i64 (({ g with count := y })).wk.last]) (by simp [results, Try.results79, go_sem, cg0, cg1, cg2, cg3, cg4, cg5, cg6, cr0, cr1, cr2, cr3, cr4, cr5, cr6, lg, lr, hGR, hRG]) rfl ?_
          exact ⟨{ g with count := y }, rfl, (HRV.out.chg (B := [G, R]) zq2 (by simp; omega) (Nat.le_refl _)).up (by omega), Chg.fin (B := [G, R]) ((HCV.out.mono (B' := [p, G, R]) (by simp)).trans zq2) (by simp; omega)⟩
        · have q1 : (v == 1) = false := beq_f h1
          by_cases h2 : v = 2
          · subst h2
            clear h0 h1 q0 q1
            obtain ⟨_, hbS, xs, rfl⟩ := HHZ.out.at (.head _)
            have cs0 : Z.cell? ⟨S, 0, none⟩ = some (.int .i64 xs.id) := (cell_blk hbS 0).trans rfl
            have cs1 : Z.cell? ⟨S, 1, none⟩ = some (.int .i64 xs.at_) := (cell_blk hbS 1).trans rfl
            have cs2 : Z.cell? ⟨S, 2, none⟩ = some (.int .i64 xs.coins) := (cell_blk hbS 2).trans rfl
            have cs3 : Z.cell? ⟨S, 3, none⟩ = some (.int .i64 xs.seq) := (cell_blk hbS 3).trans rfl
            have cs4 : Z.cell? ⟨S, 4, none⟩ = some (.int .i64 xs.last) := (cell_blk hbS 4).trans rfl
            have zcs0 := frozen_blk hbS 0
            have zcs1 := frozen_blk hbS 1
            have zcs2 := frozen_blk hbS 2
            have zcs3 := frozen_blk hbS 3
            have zcs4 := frozen_blk hbS 4
            have ls := lt_blk hbS
            have hSG : S ≠ G := by omega
            have hGS : G ≠ S := by omega
            clear hbS
            try go_wp2_with (first
                | fail
                | (
                  with_reducible refine wp_region_mix (by kernel_rfl) (by decide +kernel) ?_
                  repeat (first
                    | (refine mix_pure rfl ?_; (first | go_big_quiet_skip | (go_big_quiet_want; go_big_quiet_op; go_big_quiet_on)); refine wpQuiet_nil ?_)
                    | (refine mix_skip (by rfl) ?_; (try simp only [Act.put, List.setIfInBounds_toArray, List.set_cons_zero, List.set_cons_succ]))
                    | (refine mix_mk rfl (by rfl) (fun K hK => ?_); (first | (go_simp; first | skip)); (show K _ _); refine hK _ _ (show Ext _ _ from zq0) ?_; clear hK K; (try simp only [Act.put, List.setIfInBounds_toArray, List.set_cons_zero, List.set_cons_succ])))
                  refine mix_nil ?_)
                | (
                  with_reducible refine wp_region_ext (by kernel_rfl) (by kernel_rfl) ?_
                  repeat (first | go_big_quiet_skip | (go_big_quiet_want; go_big_quiet_op; first | go_big_quiet_on | (apply Exists.intro; refine ⟨fun _ => ?_, ?_⟩; (fail); (try rw [h1]); (try rw [h2]); (try rw [h3]); (try rw [h4]); (try rw [p1]); (try rw [p2]); (try rw [p3]); (try rw [p4]); (try rw [r1]); (try rw [r2]); (try rw [r3]); (try rw [r4]); (try rw [r5]); (try rw [r6]); (try rw [q3]); (try rw [q4]); (try rw [hp]); (try rw [hq]); go_big_quiet_on)))
                  refine wpQuiet_nil ?_
                  rintro _ ⟨tq, rfl⟩))
            refine (l20BadWalker_u lo p (Q + 80) xs Z HRZ.out (by omega)).mono ?_
            rintro e V ⟨y, rfl, _, hRV, hCV⟩
            have bgV := (hCV.block G lg (by simpa using hGp)).trans HOZ.out
            obtain ⟨_, hbR, rfl⟩ := (HHZ.out.chg hCV (by simp; omega)).at (.tail _ (.tail _ (.head _)))
            have HRV := hid hRV
            have HCV := hid (HCZ.out.trans hCV)
            clear cg0 cg1 cg2 cg3 cg4 cg5 cg6 zcg0 zcg1 zcg2 zcg3 zcg4 zcg5 zcg6 cr0 cr1 cr2 cr3 cr4 cr5 cr6 zcr0 zcr1 zcr2 zcr3 zcr4 zcr5 zcr6 lg lr cs0 cs1 cs2 cs3 cs4 zcs0 zcs1 zcs2 zcs3 zcs4 ls hRV hCV HRZ HCZ HHZ HOZ
            have cg0 : V.cell? ⟨G, 0, none⟩ = some (.int .i64 g.src) := (cell_blk bgV 0).trans rfl
            have cg1 : V.cell? ⟨G, 1, none⟩ = some (.int .i64 g.count) := (cell_blk bgV 1).trans rfl
            have cg2 : V.cell? ⟨G, 2, none⟩ = some (.int .i64 g.wk.id) := (cell_blk bgV 2).trans rfl
            have cg3 : V.cell? ⟨G, 3, none⟩ = some (.int .i64 g.wk.at_) := (cell_blk bgV 3).trans rfl
            have cg4 : V.cell? ⟨G, 4, none⟩ = some (.int .i64 g.wk.coins) := (cell_blk bgV 4).trans rfl
            have cg5 : V.cell? ⟨G, 5, none⟩ = some (.int .i64 g.wk.seq) := (cell_blk bgV 5).trans rfl
            have cg6 : V.cell? ⟨G, 6, none⟩ = some (.int .i64 g.wk.last) := (cell_blk bgV 6).trans rfl
            have zcg0 := frozen_blk bgV 0
            have zcg1 := frozen_blk bgV 1
            have zcg2 := frozen_blk bgV 2
            have zcg3 := frozen_blk bgV 3
            have zcg4 := frozen_blk bgV 4
            have zcg5 := frozen_blk bgV 5
            have zcg6 := frozen_blk bgV 6
            have cr0 : V.cell? ⟨R, 0, none⟩ = some (.int .i64 0) := (cell_blk hbR 0).trans rfl
            have cr1 : V.cell? ⟨R, 1, none⟩ = some (.int .i64 0) := (cell_blk hbR 1).trans rfl
            have cr2 : V.cell? ⟨R, 2, none⟩ = some (.int .i64 0) := (cell_blk hbR 2).trans rfl
            have cr3 : V.cell? ⟨R, 3, none⟩ = some (.int .i64 0) := (cell_blk hbR 3).trans rfl
            have cr4 : V.cell? ⟨R, 4, none⟩ = some (.int .i64 0) := (cell_blk hbR 4).trans rfl
            have cr5 : V.cell? ⟨R, 5, none⟩ = some (.int .i64 0) := (cell_blk hbR 5).trans rfl
            have cr6 : V.cell? ⟨R, 6, none⟩ = some (.int .i64 0) := (cell_blk hbR 6).trans rfl
            have zcr0 := frozen_blk hbR 0
            have zcr1 := frozen_blk hbR 1
            have zcr2 := frozen_blk hbR 2
            have zcr3 := frozen_blk hbR 3
            have zcr4 := frozen_blk hbR 4
            have zcr5 := frozen_blk hbR 5
            have zcr6 := frozen_blk hbR 6
            have lg := lt_blk bgV
            have lr := lt_blk hbR
            clear bgV hbR
            try go_wp2_with (first
                | fail
                | (
                  with_reducible refine wp_region_mix (by kernel_rfl) (by decide +kernel) ?_
                  repeat (first
                    | (refine mix_pure rfl ?_; (first | go_big_quiet_skip | (go_big_quiet_want; go_big_quiet_op; go_big_quiet_on)); refine wpQuiet_nil ?_)
                    | (refine mix_skip (by rfl) ?_; (try simp only [Act.put, List.setIfInBounds_toArray, List.set_cons_zero, List.set_cons_succ]))
                    | (refine mix_mk rfl (by rfl) (fun K hK => ?_); (first | (go_simp; first | skip)); (show K _ _); refine hK _ _ (show Ext _ _ from zq0) ?_; clear hK K; (try simp only [Act.put, List.setIfInBounds_toArray, List.set_cons_zero, List.set_cons_succ])))
                  refine mix_nil ?_)
                | (
                  with_reducible refine wp_region_ext (by kernel_rfl) (by kernel_rfl) ?_
                  repeat (first | go_big_quiet_skip | (go_big_quiet_want; go_big_quiet_op; first | go_big_quiet_on | (apply Exists.intro; refine ⟨fun _ => ?_, ?_⟩; (fail); (try rw [h1]); (try rw [h2]); (try rw [h3]); (try rw [h4]); (try rw [p1]); (try rw [p2]); (try rw [p3]); (try rw [p4]); (try rw [r1]); (try rw [r2]); (try rw [r3]); (try rw [r4]); (try rw [r5]); (try rw [r6]); (try rw [q3]); (try rw [q4]); (try rw [hp]); (try rw [hq]); go_big_quiet_on)))
                  refine wpQuiet_nil ?_
                  rintro _ ⟨tq, rfl⟩))
            refine bodyPost_ret (v := .agg #[.int .i64 (({ g with wk := y })).src, .int .i64 (({ g with wk := y })).count, .int .i64 (({ g with wk := y })).wk.id, .int .i64 (({ g with wk := y })).wk.at_, .int .i64 (({ g with wk := y })).wk.coins, .int .i64 (({ g with wk := y })).wk.seq, .int .i64 (({ g with wk := y })).wk.last]) (by simp [results, Try.results79, go_sem, cg0, cg1, cg2, cg3, cg4, cg5, cg6, cr0, cr1, cr2, cr3, cr4, cr5, cr6, lg, lr, hGR, hRG]) rfl ?_
            exact ⟨{ g with wk := y }, rfl, (HRV.out.chg (B := [G, R]) zq2 (by simp; omega) (Nat.le_refl _)).up (by omega), Chg.fin (B := [G, R]) ((HCV.out.mono (B' := [p, G, R]) (by simp)).trans zq2) (by simp; omega)⟩
          · have q2 : (v == 2) = false := beq_f h2
            clear h0 h1 h2
            try go_wp2_with (first
                | fail
                | (
                  with_reducible refine wp_region_mix (by kernel_rfl) (by decide +kernel) ?_
                  repeat (first
                    | (refine mix_pure rfl ?_; (first | go_big_quiet_skip | (go_big_quiet_want; go_big_quiet_op; go_big_quiet_on)); refine wpQuiet_nil ?_)
                    | (refine mix_skip (by rfl) ?_; (try simp only [Act.put, List.setIfInBounds_toArray, List.set_cons_zero, List.set_cons_succ]))
                    | (refine mix_mk rfl (by rfl) (fun K hK => ?_); (first | (go_simp; first | skip)); (show K _ _); refine hK _ _ (show Ext _ _ from zq0) ?_; clear hK K; (try simp only [Act.put, List.setIfInBounds_toArray, List.set_cons_zero, List.set_cons_succ])))
                  refine mix_nil ?_)
                | (
                  with_reducible refine wp_region_ext (by kernel_rfl) (by kernel_rfl) ?_
                  repeat (first | go_big_quiet_skip | (go_big_quiet_want; go_big_quiet_op; first | go_big_quiet_on | (apply Exists.intro; refine ⟨fun _ => ?_, ?_⟩; (fail); (try rw [h1]); (try rw [h2]); (try rw [h3]); (try rw [h4]); (try rw [p1]); (try rw [p2]); (try rw [p3]); (try rw [p4]); (try rw [r1]); (try rw [r2]); (try rw [r3]); (try rw [r4]); (try rw [r5]); (try rw [r6]); (try rw [q3]); (try rw [q4]); (try rw [hp]); (try rw [hq]); go_big_quiet_on)))
                  refine wpQuiet_nil ?_
                  rintro _ ⟨tq, rfl⟩))
            refine bodyPost_ret (v := .agg #[.int .i64 g.src, .int .i64 g.count, .int .i64 g.wk.id, .int .i64 g.wk.at_, .int .i64 g.wk.coins, .int .i64 g.wk.seq, .int .i64 g.wk.last]) (by simp [results, Try.results79, go_sem, cg0, cg1, cg2, cg3, cg4, cg5, cg6, cr0, cr1, cr2, cr3, cr4, cr5, cr6, lg, lr, hGR, hRG]) rfl ?_
            exact ⟨g, rfl, (HRZ.out.chg (B := [R]) zq2 (by simp; omega) (Nat.le_refl _)).up (by omega), Chg.fin (B := [R]) ((HCZ.out.mono (B' := [p, R]) (by simp)).trans zq2) (by simp; omega)⟩
  | true =>
    have OK := hid ok
    clear ok
    go_enter Try.func79, Try.ntmps79
    try go_wp2_with (first
        | (go_at_call 89; (with_reducible refine (l20Walker_c lo p Q m _ (HR.out.of zq0) (by omega) HM.out).mono ?_); rintro e w1 ⟨x, rfl, _, hR, hC⟩; have bR := hid (show w1.heap[w.heap.size + 1]? = some (oGst ⟨0, 0, ⟨0, 0, 0, 0, 0⟩⟩) from (hC.block _ (by (try simp [go_sem]) <;> (try simp [Xt.add]) <;> omega) (by simp; omega)).trans zq3); have bM := hid (show w1.heap[w.heap.size]? = some (oMp m) from (hC.block _ (by (try simp [go_sem]) <;> (try simp [Xt.add]) <;> omega) (by simp; omega)).trans zq3); have cM0 : w1.cell? ⟨w.heap.size, 0, none⟩ = some (.int .i64 m.c) := (cell_blk bM.out 0).trans rfl; have cM1 : w1.cell? ⟨w.heap.size, 1, none⟩ = some (.int .i64 m.w) := (cell_blk bM.out 1).trans rfl; have lM9 := lt_blk bM.out; have HR1 := hid hR; have HC1 := hid (show Chg [p] w w1 from Chg.trans zq1 hC); clear hR hC) | (go_at_call 14; (with_reducible refine (sPlcOk_d m _ _ (by assumption)).mono ?_); rintro e w' ⟨rfl, t5, rfl⟩)
        | (
          with_reducible refine wp_region_mix (by kernel_rfl) (by decide +kernel) ?_
          repeat (first
            | (refine mix_pure rfl ?_; (first | go_big_quiet_skip | (go_big_quiet_want; go_big_quiet_op; go_big_quiet_on)); refine wpQuiet_nil ?_)
            | (refine mix_skip (by rfl) ?_; (try simp only [Act.put, List.setIfInBounds_toArray, List.set_cons_zero, List.set_cons_succ]))
            | (refine mix_mk rfl (by rfl) (fun K hK => ?_); (first | (go_simp; first | (go_at_call 89; (with_reducible refine (l20Walker_c lo p Q m _ (HR.out.of zq0) (by omega) HM.out).mono ?_); rintro e w1 ⟨x, rfl, _, hR, hC⟩; have bR := hid (show w1.heap[w.heap.size + 1]? = some (oGst ⟨0, 0, ⟨0, 0, 0, 0, 0⟩⟩) from (hC.block _ (by (try simp [go_sem]) <;> (try simp [Xt.add]) <;> omega) (by simp; omega)).trans zq3); have bM := hid (show w1.heap[w.heap.size]? = some (oMp m) from (hC.block _ (by (try simp [go_sem]) <;> (try simp [Xt.add]) <;> omega) (by simp; omega)).trans zq3); have cM0 : w1.cell? ⟨w.heap.size, 0, none⟩ = some (.int .i64 m.c) := (cell_blk bM.out 0).trans rfl; have cM1 : w1.cell? ⟨w.heap.size, 1, none⟩ = some (.int .i64 m.w) := (cell_blk bM.out 1).trans rfl; have lM9 := lt_blk bM.out; have HR1 := hid hR; have HC1 := hid (show Chg [p] w w1 from Chg.trans zq1 hC); clear hR hC) | (go_at_call 14; (with_reducible refine (sPlcOk_d m _ _ (by assumption)).mono ?_); rintro e w' ⟨rfl, t5, rfl⟩) | skip)); (show K _ _); refine hK _ _ (show Ext _ _ from zq0) ?_; clear hK K; (try simp only [Act.put, List.setIfInBounds_toArray, List.set_cons_zero, List.set_cons_succ])))
          refine mix_nil ?_)
        | (
          with_reducible refine wp_region_ext (by kernel_rfl) (by kernel_rfl) ?_
          repeat (first | go_big_quiet_skip | (go_big_quiet_want; go_big_quiet_op; first | go_big_quiet_on | (apply Exists.intro; refine ⟨fun _ => ?_, ?_⟩; (fail); (try rw [h1]); (try rw [h2]); (try rw [h3]); (try rw [h4]); (try rw [p1]); (try rw [p2]); (try rw [p3]); (try rw [p4]); (try rw [r1]); (try rw [r2]); (try rw [r3]); (try rw [r4]); (try rw [r5]); (try rw [r6]); (try rw [q3]); (try rw [q4]); (try rw [hp]); (try rw [hq]); go_big_quiet_on)))
          refine wpQuiet_nil ?_
          rintro _ ⟨tq, rfl⟩))
    refine calls_gen fun X hX => ?_
    obtain ⟨M, hMe⟩ : ∃ M, w.heap.size = M := ⟨_, rfl⟩
    obtain ⟨R, hRe⟩ : ∃ R, w.heap.size + 1 = R := ⟨_, rfl⟩
    obtain ⟨S, hSe⟩ : ∃ S, w1.heap.size = S := ⟨_, rfl⟩
    have EX : Ext w1 X := by rw [hX]; ((try simp only [ext_drew]); (try simp only [ext_ext]); repeat (first | exact Ext.refl _ | with_reducible apply Ext.add | with_reducible apply Ext.dr | apply Ext.alloc | apply Ext.ext | apply Ext.drew | refine Ext.trans ?_ (by assumption)))
    have bS : X.heap[S]? = some (oWlk x) := by rw [hX, ← hSe]; exact zq3
    have lM1 := lt_blk bM.out
    have lR1 := lt_blk bR.out
    have bM2 := (EX.block lM1).trans bM.out
    have bR2 := (EX.block lR1).trans bR.out
    have lp1 := HR1.out.lt
    rw [hRe, hMe, hSe]
    rw [hMe] at bM2 lM1
    rw [hRe] at bR2 lR1
    have hSM : S ≠ M := by omega
    have hSR : S ≠ R := by omega
    have hMR : M ≠ R := by omega
    have hSp : S ≠ p := by omega
    have hMp : M ≠ p := by omega
    have hRp : R ≠ p := by omega
    have hwS : w.heap.size ≤ S := by omega
    have hwR : w.heap.size ≤ R := by omega
    have hwM : w.heap.size ≤ M := by omega
    have HJ := hid (show Rdr lo p (Q + 20) X ∧ Held [(S, IsWlk), (M, fun o => o = oMp m), (R, fun o => o = oGst ⟨0, 0, ⟨0, 0, 0, 0, 0⟩⟩)] X from ⟨HR1.out.of EX, Held.cons bS ⟨_, rfl⟩ (Held.cons bM2 rfl (Held.cons bR2 rfl Held.nil))⟩)
    have HCX := hid (HC1.out.trans (Chg.of_ext EX [p]))
    clear hX EX hMe hRe hSe bS bM2 bR2 bM bR lM1 lR1 lp1 HR HR1 HC1 cM0 cM1 lM9
    refine (pick_c lo p _ 4 X HJ.out.1 (by omega) (by omega) (by omega)).mono ?_
    rintro e Z ⟨v, rfl, hv0, hv1, hRZ, hCZ⟩
    have HHZ := hid (HJ.out.2.chg hCZ (by simp; omega))
    have HRZ := hid (hRZ.up (show _ ≤ Q + 30 by omega))
    have HCZ := hid (HCX.out.trans hCZ)
    clear HJ HCX hRZ hCZ
    by_cases hv : 0 < v
    · try go_wp2_with (first
          | fail
          | (
            with_reducible refine wp_region_mix (by kernel_rfl) (by decide +kernel) ?_
            repeat (first
              | (refine mix_pure rfl ?_; (first | go_big_quiet_skip | (go_big_quiet_want; go_big_quiet_op; go_big_quiet_on)); refine wpQuiet_nil ?_)
              | (refine mix_skip (by rfl) ?_; (try simp only [Act.put, List.setIfInBounds_toArray, List.set_cons_zero, List.set_cons_succ]))
              | (refine mix_mk rfl (by rfl) (fun K hK => ?_); (first | (go_simp; first | skip)); (show K _ _); refine hK _ _ (show Ext _ _ from zq0) ?_; clear hK K; (try simp only [Act.put, List.setIfInBounds_toArray, List.set_cons_zero, List.set_cons_succ])))
            refine mix_nil ?_)
          | (
            with_reducible refine wp_region_ext (by kernel_rfl) (by kernel_rfl) ?_
            repeat (first | go_big_quiet_skip | (go_big_quiet_want; go_big_quiet_op; first | go_big_quiet_on | (apply Exists.intro; refine ⟨fun _ => ?_, ?_⟩; (fail); (try rw [h1]); (try rw [h2]); (try rw [h3]); (try rw [h4]); (try rw [p1]); (try rw [p2]); (try rw [p3]); (try rw [p4]); (try rw [r1]); (try rw [r2]); (try rw [r3]); (try rw [r4]); (try rw [r5]); (try rw [r6]); (try rw [q3]); (try rw [q4]); (try rw [hp]); (try rw [hq]); go_big_quiet_on)))
            refine wpQuiet_nil ?_
            rintro _ ⟨tq, rfl⟩))
      refine wp_gen fun Y hY => ?_
      have EY : Ext Z Y := by rw [hY]; ((try simp only [ext_drew]); (try simp only [ext_ext]); repeat (first | exact Ext.refl _ | with_reducible apply Ext.add | with_reducible apply Ext.dr | apply Ext.alloc | apply Ext.ext | apply Ext.drew | refine Ext.trans ?_ (by assumption)))
      have HJ := hid (show Rdr lo p (Q + 30) Y ∧ Held [(S, IsWlk), (M, fun o => o = oMp m), (R, fun o => o = oGst ⟨0, 0, ⟨0, 0, 0, 0, 0⟩⟩)] Y from ⟨(HRZ.out.of EY).up (by omega), HHZ.out.of EY⟩)
      have HCY := hid (HCZ.out.trans (Chg.of_ext EY [p]))
      obtain ⟨_, hbS0, _⟩ := HJ.out.2.at (.head _)
      obtain ⟨_, hbM0, _⟩ := HJ.out.2.at (.tail _ (.head _))
      obtain ⟨_, hbR0, _⟩ := HJ.out.2.at (.tail _ (.tail _ (.head _)))
      have lS0 := lt_blk hbS0
      have lM0 := lt_blk hbM0
      have lR0 := lt_blk hbR0
      have hpW := HJ.out.1.lt
      clear hY EY HRZ HCZ HHZ hbS0 hbM0 hbR0
      refine wp_region_flowD [some 17, some 18, some 19, some 20, some 21, some 22, some 23, some 24, some 25, some 26, some 27, some 28, some 29, some 30, some 31, some 32, some 33, none] (fun a b => ChgT Y.heap.size [p, S] (fun _ => False) a b) (fun i a b => match i with | 17 => Chg [S] a b | _ => Chg [p] a b) (fun k9 w9 => Rdr lo p ((Q + 30) + 1 * k9) w9 ∧ Held [(S, IsWlk), (M, fun o => o = oMp m), (R, fun o => o = oGst ⟨0, 0, ⟨0, 0, 0, 0, 0⟩⟩)] w9) (fun i v9 w9 => match i with
        | 0 => v9 = .agg #[.int .i64 (m.c), .int .i64 (m.w)]
        | 1 => v9 = .pointer (some ⟨S, 1, none⟩)
        | 2 => ∃ x : Int, v9 = .int .i64 x
        | 3 => ∃ x : Int, v9 = .int .i64 x ∧ (-1 ≤ x ∧ x ≤ 3)
        | 4 => v9 = .pointer (some ⟨M, 1, none⟩)
        | 5 => v9 = .int .i64 (m.w)
        | 6 => ∃ x : Int, v9 = .int .i64 x
        | 7 => v9 = .pointer (some ⟨M, 1, none⟩)
        | 8 => v9 = .int .i64 (m.w)
        | 9 => InI (-2) (8) (v9)
        | 10 => MkI Y.heap.size 2 (-2) (8) (v9) w9
        | 11 => v9 = .pointer (some ⟨p, 0, none⟩)
        | 12 => InI 0 (1) (v9)
        | 13 => PtI Y.heap.size 2 (-2) (8) (v9) w9
        | 14 => InI (-2) (8) (v9)
        | 15 => ∃ x : Int, v9 = .int .i64 x
        | 16 => v9 = .pointer (some ⟨S, 1, none⟩)
        | _ => BlkP S (fun o => ∃ x, o = oWlk x ∧ True) w9) (by kernel_rfl) (by decide +kernel) (by simp) (fun a => ChgT.refl _ _ _ a) (fun a b c h k => ChgT.trans h k) ?_ (ChgT.of (Chg.drew (Chg.refl [] _)) (by simp)) ?_ ?_ ?_ ?_
      · intro i a b hi hG
        have hi9 : i < 18 := hi
        clear hi
        match i, hi9, hG with
        | 0, _, hG => exact ChgT.of hG (by simp; omega)
        | 1, _, hG => exact ChgT.of hG (by simp; omega)
        | 2, _, hG => exact ChgT.of hG (by simp; omega)
        | 3, _, hG => exact ChgT.of hG (by simp; omega)
        | 4, _, hG => exact ChgT.of hG (by simp; omega)
        | 5, _, hG => exact ChgT.of hG (by simp; omega)
        | 6, _, hG => exact ChgT.of hG (by simp; omega)
        | 7, _, hG => exact ChgT.of hG (by simp; omega)
        | 8, _, hG => exact ChgT.of hG (by simp; omega)
        | 9, _, hG => exact ChgT.of hG (by simp; omega)
        | 10, _, hG => exact ChgT.of hG (by simp; omega)
        | 11, _, hG => exact ChgT.of hG (by simp; omega)
        | 12, _, hG => exact ChgT.of hG (by simp; omega)
        | 13, _, hG => exact ChgT.of hG (by simp; omega)
        | 14, _, hG => exact ChgT.of hG (by simp; omega)
        | 15, _, hG => exact ChgT.of hG (by simp; omega)
        | 16, _, hG => exact ChgT.of hG (by simp; omega)
        | 17, _, hG => exact ChgT.of hG (by simp; omega)
        | n + 18, h9, _ => exact absurd h9 (by omega)
      · exact ⟨HJ.out.1.of zq0, HJ.out.2.drw⟩
      · intro i j hi hj hij v9 w9 w8 hg hS hG
        have hi9 : i < 18 := hi
        have hj9 : j < 18 := hj
        have hG0 := hG
        have hG2 : ChgT Y.heap.size [p, S] (fun _ => False) w9 w8 := by
          clear hG0 hij hi hj hS
          match i, hi9, hG with
          | 0, _, hG => exact ChgT.of hG (by simp; omega)
          | 1, _, hG => exact ChgT.of hG (by simp; omega)
          | 2, _, hG => exact ChgT.of hG (by simp; omega)
          | 3, _, hG => exact ChgT.of hG (by simp; omega)
          | 4, _, hG => exact ChgT.of hG (by simp; omega)
          | 5, _, hG => exact ChgT.of hG (by simp; omega)
          | 6, _, hG => exact ChgT.of hG (by simp; omega)
          | 7, _, hG => exact ChgT.of hG (by simp; omega)
          | 8, _, hG => exact ChgT.of hG (by simp; omega)
          | 9, _, hG => exact ChgT.of hG (by simp; omega)
          | 10, _, hG => exact ChgT.of hG (by simp; omega)
          | 11, _, hG => exact ChgT.of hG (by simp; omega)
          | 12, _, hG => exact ChgT.of hG (by simp; omega)
          | 13, _, hG => exact ChgT.of hG (by simp; omega)
          | 14, _, hG => exact ChgT.of hG (by simp; omega)
          | 15, _, hG => exact ChgT.of hG (by simp; omega)
          | 16, _, hG => exact ChgT.of hG (by simp; omega)
          | 17, _, hG => exact ChgT.of hG (by simp; omega)
          | n + 18, h9, _ => exact absurd h9 (by omega)
        clear hi hj hG
        match j, hj9 with
        | 0, _ => exact hS
        | 1, _ => exact hS
        | 2, _ => exact hS
        | 3, _ => exact hS
        | 4, _ => exact hS
        | 5, _ => exact hS
        | 6, _ => exact hS
        | 7, _ => exact hS
        | 8, _ => exact hS
        | 9, _ => exact hS
        | 10, _ => exact MkI.chgT hS hG2 noInt_none
        | 11, _ => exact hS
        | 12, _ => exact hS
        | 13, _ => exact PtI.chgT hS hG2 noInt_none
        | 14, _ => exact hS
        | 15, _ => exact hS
        | 16, _ => exact hS
        | 17, _ =>
          match i, hi9, hG0, hij with
          | 0, _, hG, _ => exact BlkP.chg hS hG (by simp; omega)
          | 1, _, hG, _ => exact BlkP.chg hS hG (by simp; omega)
          | 2, _, hG, _ => exact BlkP.chg hS hG (by simp; omega)
          | 3, _, hG, _ => exact BlkP.chg hS hG (by simp; omega)
          | 4, _, hG, _ => exact BlkP.chg hS hG (by simp; omega)
          | 5, _, hG, _ => exact BlkP.chg hS hG (by simp; omega)
          | 6, _, hG, _ => exact BlkP.chg hS hG (by simp; omega)
          | 7, _, hG, _ => exact BlkP.chg hS hG (by simp; omega)
          | 8, _, hG, _ => exact BlkP.chg hS hG (by simp; omega)
          | 9, _, hG, _ => exact BlkP.chg hS hG (by simp; omega)
          | 10, _, hG, _ => exact BlkP.chg hS hG (by simp; omega)
          | 11, _, hG, _ => exact BlkP.chg hS hG (by simp; omega)
          | 12, _, hG, _ => exact BlkP.chg hS hG (by simp; omega)
          | 13, _, hG, _ => exact BlkP.chg hS hG (by simp; omega)
          | 14, _, hG, _ => exact BlkP.chg hS hG (by simp; omega)
          | 15, _, hG, _ => exact BlkP.chg hS hG (by simp; omega)
          | 16, _, hG, _ => exact BlkP.chg hS hG (by simp; omega)
          | 17, _, _, h9 => exact absurd rfl h9
          | n + 18, h9, _, _ => exact absurd h9 (by omega)
        | n + 18, h9 => exact absurd h9 (by omega)
      · intro i oo ho σ k9 w9 hG hk9 hJ hd
        have HG := hid hG
        have HJ9 := hid hJ
        have hW9 := hG.size
        have hkN : k9 < 18 := hk9
        have hi9 : i < 18 := (List.getElem?_eq_some_iff.1 ho).1
        clear hG hJ hk9
        match i, hi9, ho with
        | 0, _, ho =>
          obtain ⟨_, hbm, rfl⟩ := HJ9.out.2.at (.tail _ (.head _))
          have cM0 := (cell_blk hbm 0).trans (show _ = some (Value.int .i64 m.c) from rfl)
          have cM1 := (cell_blk hbm 1).trans (show _ = some (Value.int .i64 m.w) from rfl)
          have zM0 := frozen_blk hbm 0
          have zM1 := frozen_blk hbm 1
          have lM9 := lt_blk hbm
          clear hbm
          obtain rfl := Option.some.inj ho
          clear hd ho
          simp only [actO, putO, List.setIfInBounds_toArray, List.set_cons_zero, List.set_cons_succ, Nat.reduceAdd]
          refine flow_K (fun K hK => ?_)
          go_simp
          (show K _ _)
          refine hK _ _ ⟨_, rfl, by simp, Chg.of_ext (show Ext _ _ from zq0) _, ⟨(HJ9.out.1.of (show Ext _ _ from zq0)).up (by omega), HJ9.out.2.of (show Ext _ _ from zq0)⟩, rfl⟩
        | 1, _, ho =>
          obtain rfl := Option.some.inj ho
          clear hd ho
          simp only [actO, putO, List.setIfInBounds_toArray, List.set_cons_zero, List.set_cons_succ, Nat.reduceAdd]
          refine flow_K (fun K hK => ?_)
          go_simp
          (show K _ _)
          refine hK _ _ ⟨_, rfl, by simp, Chg.of_ext (show Ext _ _ from zq0) _, ⟨(HJ9.out.1.of (show Ext _ _ from zq0)).up (by omega), HJ9.out.2.of (show Ext _ _ from zq0)⟩, rfl⟩
        | 2, _, ho =>
          have e1 : σ 1 = .pointer (some ⟨S, 1, none⟩) := hd 1 (by obtain rfl := Option.some.inj ho; kernel_rfl)
          obtain ⟨_, hb, x0, rfl⟩ := HJ9.out.2.at (.head _)
          have cU := (cell_blk hb 1).trans rfl
          have zU := frozen_blk hb 1
          have lU := lt_blk hb
          obtain rfl := Option.some.inj ho
          clear hd ho
          simp only [actO, putO, List.setIfInBounds_toArray, List.set_cons_zero, List.set_cons_succ, Nat.reduceAdd, e1]
          refine flow_K (fun K hK => ?_)
          go_simp
          (show K _ _)
          refine hK _ _ ⟨_, rfl, by simp, Chg.of_ext (show Ext _ _ from zq0) _, ⟨(HJ9.out.1.of (show Ext _ _ from zq0)).up (by omega), HJ9.out.2.of (show Ext _ _ from zq0)⟩, ⟨_, rfl⟩⟩
        | 3, _, ho =>
          have e0 : σ 0 = .agg #[.int .i64 (m.c), .int .i64 (m.w)] := hd 0 (by obtain rfl := Option.some.inj ho; kernel_rfl)
          obtain ⟨x2, e2⟩ : ∃ x : Int, σ 2 = .int .i64 x := hd 2 (by obtain rfl := Option.some.inj ho; kernel_rfl)
          obtain rfl := Option.some.inj ho
          clear hd ho
          simp only [actO, putO, List.setIfInBounds_toArray, List.set_cons_zero, List.set_cons_succ, Nat.reduceAdd, e0, e2]
          refine flow_K (fun K hK => ?_)
          have HRd := hid HJ9.out.1
          go_simp
          refine (sPlcCell_c m x2 w9).mono ?_
          rintro e w8 ⟨rfl, hE8⟩; have hC8 : Chg [p] w9 w8 := Chg.of_ext hE8 _; have hR8 := HJ9.out.1.of hE8
          (show K _ _)
          refine hK _ _ ⟨_, rfl, by simp, hC8, ⟨hR8.up (by omega), HJ9.out.2.chg hC8 (by simp; omega)⟩, ⟨_, rfl, plcCell_lo m _⟩⟩
        | 4, _, ho =>
          obtain rfl := Option.some.inj ho
          clear hd ho
          simp only [actO, putO, List.setIfInBounds_toArray, List.set_cons_zero, List.set_cons_succ, Nat.reduceAdd]
          refine flow_K (fun K hK => ?_)
          go_simp
          (show K _ _)
          refine hK _ _ ⟨_, rfl, by simp, Chg.of_ext (show Ext _ _ from zq0) _, ⟨(HJ9.out.1.of (show Ext _ _ from zq0)).up (by omega), HJ9.out.2.of (show Ext _ _ from zq0)⟩, rfl⟩
        | 5, _, ho =>
          have e4 : σ 4 = .pointer (some ⟨M, 1, none⟩) := hd 4 (by obtain rfl := Option.some.inj ho; kernel_rfl)
          obtain ⟨_, hbm, rfl⟩ := HJ9.out.2.at (.tail _ (.head _))
          have cM0 := (cell_blk hbm 0).trans (show _ = some (Value.int .i64 m.c) from rfl)
          have cM1 := (cell_blk hbm 1).trans (show _ = some (Value.int .i64 m.w) from rfl)
          have zM0 := frozen_blk hbm 0
          have zM1 := frozen_blk hbm 1
          have lM9 := lt_blk hbm
          clear hbm
          obtain rfl := Option.some.inj ho
          clear hd ho
          simp only [actO, putO, List.setIfInBounds_toArray, List.set_cons_zero, List.set_cons_succ, Nat.reduceAdd, e4]
          refine flow_K (fun K hK => ?_)
          go_simp
          (show K _ _)
          refine hK _ _ ⟨_, rfl, by simp, Chg.of_ext (show Ext _ _ from zq0) _, ⟨(HJ9.out.1.of (show Ext _ _ from zq0)).up (by omega), HJ9.out.2.of (show Ext _ _ from zq0)⟩, rfl⟩
        | 6, _, ho =>
          obtain ⟨x3, e3, h3⟩ : ∃ x : Int, σ 3 = .int .i64 x ∧ (-1 ≤ x ∧ x ≤ 3) := hd 3 (by obtain rfl := Option.some.inj ho; kernel_rfl)
          have e5 : σ 5 = .int .i64 (m.w) := hd 5 (by obtain rfl := Option.some.inj ho; kernel_rfl)
          obtain rfl := Option.some.inj ho
          clear hd ho
          simp only [actO, putO, List.setIfInBounds_toArray, List.set_cons_zero, List.set_cons_succ, Nat.reduceAdd, e3, e5]
          refine flow_K (fun K hK => ?_)
          go_simp
          (show K _ _)
          refine hK _ _ ⟨_, rfl, by simp, Chg.of_ext (show Ext _ _ from zq0) _, ⟨(HJ9.out.1.of (show Ext _ _ from zq0)).up (by omega), HJ9.out.2.of (show Ext _ _ from zq0)⟩, ⟨_, rfl⟩⟩
        | 7, _, ho =>
          obtain rfl := Option.some.inj ho
          clear hd ho
          simp only [actO, putO, List.setIfInBounds_toArray, List.set_cons_zero, List.set_cons_succ, Nat.reduceAdd]
          refine flow_K (fun K hK => ?_)
          go_simp
          (show K _ _)
          refine hK _ _ ⟨_, rfl, by simp, Chg.of_ext (show Ext _ _ from zq0) _, ⟨(HJ9.out.1.of (show Ext _ _ from zq0)).up (by omega), HJ9.out.2.of (show Ext _ _ from zq0)⟩, rfl⟩
        | 8, _, ho =>
          have e7 : σ 7 = .pointer (some ⟨M, 1, none⟩) := hd 7 (by obtain rfl := Option.some.inj ho; kernel_rfl)
          obtain ⟨_, hbm, rfl⟩ := HJ9.out.2.at (.tail _ (.head _))
          have cM0 := (cell_blk hbm 0).trans (show _ = some (Value.int .i64 m.c) from rfl)
          have cM1 := (cell_blk hbm 1).trans (show _ = some (Value.int .i64 m.w) from rfl)
          have zM0 := frozen_blk hbm 0
          have zM1 := frozen_blk hbm 1
          have lM9 := lt_blk hbm
          clear hbm
          obtain rfl := Option.some.inj ho
          clear hd ho
          simp only [actO, putO, List.setIfInBounds_toArray, List.set_cons_zero, List.set_cons_succ, Nat.reduceAdd, e7]
          refine flow_K (fun K hK => ?_)
          go_simp
          (show K _ _)
          refine hK _ _ ⟨_, rfl, by simp, Chg.of_ext (show Ext _ _ from zq0) _, ⟨(HJ9.out.1.of (show Ext _ _ from zq0)).up (by omega), HJ9.out.2.of (show Ext _ _ from zq0)⟩, rfl⟩
        | 9, _, ho =>
          have e8 : σ 8 = .int .i64 (m.w) := hd 8 (by obtain rfl := Option.some.inj ho; kernel_rfl)
          have hwr : IntKind.i64.wrap (m.w - 1) = m.w - 1 := by simp [IntKind.wrap, IntKind.bits, IntKind.signed]; omega
          obtain rfl := Option.some.inj ho
          clear hd ho
          simp only [actO, putO, List.setIfInBounds_toArray, List.set_cons_zero, List.set_cons_succ, Nat.reduceAdd, e8]
          refine flow_K (fun K hK => ?_)
          go_simp
          (try rw [hwr])
          (show K _ _)
          refine hK _ _ ⟨_, rfl, by simp, Chg.of_ext (show Ext _ _ from zq0) _, ⟨(HJ9.out.1.of (show Ext _ _ from zq0)).up (by omega), HJ9.out.2.of (show Ext _ _ from zq0)⟩, ⟨_, rfl, by omega, by omega⟩⟩
        | 10, _, ho =>
          obtain ⟨x9, e9, y9, z9⟩ : InI (-2) (8) (σ 9) := hd 9 (by obtain rfl := Option.some.inj ho; kernel_rfl)
          obtain rfl := Option.some.inj ho
          clear hd ho
          simp only [actO, putO, List.setIfInBounds_toArray, List.set_cons_zero, List.set_cons_succ, Nat.reduceAdd, e9]
          refine flow_K (fun K hK => ?_)
          go_simp
          (show K _ _)
          refine hK _ _ ⟨_, rfl, by simp, Chg.of_ext (show Ext _ _ from zq0) _, ⟨(HJ9.out.1.of (show Ext _ _ from zq0)).up (by omega), HJ9.out.2.of (show Ext _ _ from zq0)⟩, ⟨_, rfl, by (try simp [go_sem]) <;> omega, ⟨_, heap_new (by simp [go_sem]), fun i hi => ?_⟩⟩⟩
          match i, hi with
          | 0, _ => exact ⟨0, rfl, by omega, by omega⟩
          | 1, _ => exact ⟨x9, rfl, by omega, by omega⟩
        | 11, _, ho =>
          obtain rfl := Option.some.inj ho
          clear hd ho
          simp only [actO, putO, List.setIfInBounds_toArray, List.set_cons_zero, List.set_cons_succ, Nat.reduceAdd]
          refine flow_K (fun K hK => ?_)
          go_simp
          (show K _ _)
          refine hK _ _ ⟨_, rfl, by simp, Chg.of_ext (show Ext _ _ from zq0) _, ⟨(HJ9.out.1.of (show Ext _ _ from zq0)).up (by omega), HJ9.out.2.of (show Ext _ _ from zq0)⟩, rfl⟩
        | 12, _, ho =>
          have e11 : σ 11 = .pointer (some ⟨p, 0, none⟩) := hd 11 (by obtain rfl := Option.some.inj ho; kernel_rfl)
          obtain rfl := Option.some.inj ho
          clear hd ho
          simp only [actO, putO, List.setIfInBounds_toArray, List.set_cons_zero, List.set_cons_succ, Nat.reduceAdd, e11]
          refine flow_K (fun K hK => ?_)
          have HRd := hid HJ9.out.1
          go_simp
          refine (pick_c lo p _ (2) w9 HRd.out (by omega) (by omega) (by omega)).mono ?_
          rintro e w8 ⟨vv, rfl, hv0, hv1, hR8, hC8⟩
          (show K _ _)
          refine hK _ _ ⟨_, rfl, by simp, hC8, ⟨hR8.up (by omega), HJ9.out.2.chg hC8 (by simp; omega)⟩, ⟨vv, rfl, hv0, by omega⟩⟩
        | 13, _, ho =>
          obtain ⟨b10, e10, hb10, ha10⟩ : MkI Y.heap.size 2 (-2) (8) (σ 10) _ := hd 10 (by obtain rfl := Option.some.inj ho; kernel_rfl)
          obtain ⟨x12, e12, y12, z12⟩ : InI 0 (1) (σ 12) := hd 12 (by obtain rfl := Option.some.inj ho; kernel_rfl)
          obtain ⟨i12, rfl⟩ : ∃ i : Nat, x12 = (i : Int) := ⟨x12.toNat, by omega⟩
          have hin : i12 < 2 := by omega
          have hin2 : (i12 : Int) < 2 := by omega
          obtain rfl := Option.some.inj ho
          clear hd ho
          simp only [actO, putO, List.setIfInBounds_toArray, List.set_cons_zero, List.set_cons_succ, Nat.reduceAdd, e10, e12]
          refine flow_K (fun K hK => ?_)
          go_simp
          (show K _ _)
          refine hK _ _ ⟨_, rfl, by simp, Chg.of_ext (show Ext _ _ from zq0) _, ⟨(HJ9.out.1.of (show Ext _ _ from zq0)).up (by omega), HJ9.out.2.of (show Ext _ _ from zq0)⟩, ⟨_, _, rfl, hin, hb10, ha10⟩⟩
        | 14, _, ho =>
          obtain ⟨b13, k13, e13, hk13, hb13, ha13⟩ : PtI Y.heap.size 2 (-2) (8) (σ 13) _ := hd 13 (by obtain rfl := Option.some.inj ho; kernel_rfl)
          obtain ⟨y, hy, hy0, hy1⟩ := index_at ha13 hk13
          obtain rfl := Option.some.inj ho
          clear hd ho
          simp only [actO, putO, List.setIfInBounds_toArray, List.set_cons_zero, List.set_cons_succ, Nat.reduceAdd, e13]
          refine flow_K (fun K hK => ?_)
          go_simp
          (show K _ _)
          refine hK _ _ ⟨_, rfl, by simp, Chg.of_ext (show Ext _ _ from zq0) _, ⟨(HJ9.out.1.of (show Ext _ _ from zq0)).up (by omega), HJ9.out.2.of (show Ext _ _ from zq0)⟩, ⟨y, rfl, hy0, hy1⟩⟩
        | 15, _, ho =>
          obtain ⟨x6, e6⟩ : ∃ x : Int, σ 6 = .int .i64 x := hd 6 (by obtain rfl := Option.some.inj ho; kernel_rfl)
          obtain ⟨x14, e14, y14, z14⟩ : InI (-2) (8) (σ 14) := hd 14 (by obtain rfl := Option.some.inj ho; kernel_rfl)
          obtain rfl := Option.some.inj ho
          clear hd ho
          simp only [actO, putO, List.setIfInBounds_toArray, List.set_cons_zero, List.set_cons_succ, Nat.reduceAdd, e6, e14]
          refine flow_K (fun K hK => ?_)
          go_simp
          (show K _ _)
          refine hK _ _ ⟨_, rfl, by simp, Chg.of_ext (show Ext _ _ from zq0) _, ⟨(HJ9.out.1.of (show Ext _ _ from zq0)).up (by omega), HJ9.out.2.of (show Ext _ _ from zq0)⟩, ⟨_, rfl⟩⟩
        | 16, _, ho =>
          obtain rfl := Option.some.inj ho
          clear hd ho
          simp only [actO, putO, List.setIfInBounds_toArray, List.set_cons_zero, List.set_cons_succ, Nat.reduceAdd]
          refine flow_K (fun K hK => ?_)
          go_simp
          (show K _ _)
          refine hK _ _ ⟨_, rfl, by simp, Chg.of_ext (show Ext _ _ from zq0) _, ⟨(HJ9.out.1.of (show Ext _ _ from zq0)).up (by omega), HJ9.out.2.of (show Ext _ _ from zq0)⟩, rfl⟩
        | 17, _, ho =>
          have e16 : σ 16 = .pointer (some ⟨S, 1, none⟩) := hd 16 (by obtain rfl := Option.some.inj ho; kernel_rfl)
          obtain ⟨x15, e15⟩ : ∃ x : Int, σ 15 = .int .i64 x := hd 15 (by obtain rfl := Option.some.inj ho; kernel_rfl)
          obtain ⟨_, hb0, x0, rfl⟩ := HJ9.out.2.at (.head _)
          have cR0 := (cell_blk hb0 0).trans rfl
          have zR0 := frozen_blk hb0 0
          have cR1 := (cell_blk hb0 1).trans rfl
          have zR1 := frozen_blk hb0 1
          have cR2 := (cell_blk hb0 2).trans rfl
          have zR2 := frozen_blk hb0 2
          have cR3 := (cell_blk hb0 3).trans rfl
          have zR3 := frozen_blk hb0 3
          have cR4 := (cell_blk hb0 4).trans rfl
          have zR4 := frozen_blk hb0 4
          have lR9 := lt_blk hb0
          have HB0 := hid hb0
          clear hb0
          obtain rfl := Option.some.inj ho
          clear hd ho
          simp only [actO, putO, List.setIfInBounds_toArray, List.set_cons_zero, List.set_cons_succ, Nat.reduceAdd, e16, e15]
          refine flow_K (fun K hK => ?_)
          go_simp
          (show K _ _)
          refine hK _ _ ⟨undef, rfl, fun _ => rfl, zq1, ⟨(HJ9.out.1.chg (B := [S]) zq1 (by simp; omega) (Nat.le_refl _)).up (by omega), HJ9.out.2.put (R := S) zq1 (o := oWlk { x0 with at_ := x15 }) (wlk_setAt HB0.out) (fun q hq hqR => ?_)⟩, ⟨_, wlk_setAt HB0.out, _, rfl, trivial⟩⟩
          simp only [List.mem_cons, List.not_mem_nil, or_false] at hq
          rcases hq with rfl | rfl | rfl
          · exact ⟨_, rfl⟩
          · exact absurd hqR (by dsimp only; omega)
          · exact absurd hqR (by dsimp only; omega)
      · intro σ w9 hG hJ hd
        have e0 : σ 0 = .agg #[.int .i64 (m.c), .int .i64 (m.w)] := hd 0 (by decide)
        have e1 : σ 1 = .pointer (some ⟨S, 1, none⟩) := hd 1 (by decide)
        obtain ⟨x2, e2⟩ : ∃ x : Int, σ 2 = .int .i64 x := hd 2 (by decide)
        obtain ⟨x3, e3, h3⟩ : ∃ x : Int, σ 3 = .int .i64 x ∧ (-1 ≤ x ∧ x ≤ 3) := hd 3 (by decide)
        have e4 : σ 4 = .pointer (some ⟨M, 1, none⟩) := hd 4 (by decide)
        have e5 : σ 5 = .int .i64 (m.w) := hd 5 (by decide)
        obtain ⟨x6, e6⟩ : ∃ x : Int, σ 6 = .int .i64 x := hd 6 (by decide)
        have e7 : σ 7 = .pointer (some ⟨M, 1, none⟩) := hd 7 (by decide)
        have e8 : σ 8 = .int .i64 (m.w) := hd 8 (by decide)
        obtain ⟨x9, e9, y9, z9⟩ : InI (-2) (8) (σ 9) := hd 9 (by decide)
        obtain ⟨b10, e10, hb10, ha10⟩ : MkI Y.heap.size 2 (-2) (8) (σ 10) _ := hd 10 (by decide)
        have e11 : σ 11 = .pointer (some ⟨p, 0, none⟩) := hd 11 (by decide)
        obtain ⟨x12, e12, y12, z12⟩ : InI 0 (1) (σ 12) := hd 12 (by decide)
        obtain ⟨b13, k13, e13, hk13, hb13, ha13⟩ : PtI Y.heap.size 2 (-2) (8) (σ 13) _ := hd 13 (by decide)
        obtain ⟨x14, e14, y14, z14⟩ : InI (-2) (8) (σ 14) := hd 14 (by decide)
        obtain ⟨x15, e15⟩ : ∃ x : Int, σ 15 = .int .i64 x := hd 15 (by decide)
        have e16 : σ 16 = .pointer (some ⟨S, 1, none⟩) := hd 16 (by decide)
        obtain ⟨_, hs17, x17, rfl, h17⟩ : BlkP S (fun o => ∃ x, o = oWlk x ∧ True) _ := hd 17 (by decide)
        have HG := hid hG
        have HJ9 := hid (show Rdr lo p ((Q + 30) + 1 * 18) w9 ∧ Held [(S, IsWlk), (M, fun o => o = oMp m), (R, fun o => o = oGst ⟨0, 0, ⟨0, 0, 0, 0, 0⟩⟩)] w9 from hJ)
        clear hd hG hJ
        simp only [actO, putO, List.setIfInBounds_toArray, List.set_cons_zero, List.set_cons_succ, Nat.reduceAdd, e0, e1, e2, e3, e4, e5, e6, e7, e8, e9, e10, e11, e12, e13, e14, e15, e16]
        clear e0 e1 e2 e3 e4 e5 e6 e7 e8 e9 e10 e11 e12 e13 e14 e15 e16
        have HRZ := hid (HJ9.out.1.up (show _ ≤ Q + 60 by omega))
        have HHZ := hid HJ9.out.2
        have HCZ := hid (Chg.fin (B := [S]) ((HCY.out.mono (B' := [p, S]) (by simp)).trans (HG.out.chg rfl)) (by simp; omega))
        obtain ⟨Z, hZ⟩ : ∃ Z, w9 = Z := ⟨_, rfl⟩
        rw [hZ] at HRZ HHZ HCZ ⊢
        clear HJ9 HG HJ HCY hs17
        try go_wp2_with (first
            | fail
            | (
              with_reducible refine wp_region_mix (by kernel_rfl) (by decide +kernel) ?_
              repeat (first
                | (refine mix_pure rfl ?_; (first | go_big_quiet_skip | (go_big_quiet_want; go_big_quiet_op; go_big_quiet_on)); refine wpQuiet_nil ?_)
                | (refine mix_skip (by rfl) ?_; (try simp only [Act.put, List.setIfInBounds_toArray, List.set_cons_zero, List.set_cons_succ]))
                | (refine mix_mk rfl (by rfl) (fun K hK => ?_); (first | (go_simp; first | skip)); (show K _ _); refine hK _ _ (show Ext _ _ from zq0) ?_; clear hK K; (try simp only [Act.put, List.setIfInBounds_toArray, List.set_cons_zero, List.set_cons_succ])))
              refine mix_nil ?_)
            | (
              with_reducible refine wp_region_ext (by kernel_rfl) (by kernel_rfl) ?_
              repeat (first | go_big_quiet_skip | (go_big_quiet_want; go_big_quiet_op; first | go_big_quiet_on | (apply Exists.intro; refine ⟨fun _ => ?_, ?_⟩; (fail); (try rw [h1]); (try rw [h2]); (try rw [h3]); (try rw [h4]); (try rw [p1]); (try rw [p2]); (try rw [p3]); (try rw [p4]); (try rw [r1]); (try rw [r2]); (try rw [r3]); (try rw [r4]); (try rw [r5]); (try rw [r6]); (try rw [q3]); (try rw [q4]); (try rw [hp]); (try rw [hq]); go_big_quiet_on)))
              refine wpQuiet_nil ?_
              rintro _ ⟨tq, rfl⟩))
        refine wp_gen fun Y hY => ?_
        have EY : Ext Z Y := by rw [hY]; ((try simp only [ext_drew]); (try simp only [ext_ext]); repeat (first | exact Ext.refl _ | with_reducible apply Ext.add | with_reducible apply Ext.dr | apply Ext.alloc | apply Ext.ext | apply Ext.drew | refine Ext.trans ?_ (by assumption)))
        have HJ := hid (show Rdr lo p (Q + 60) Y ∧ Held [(S, IsWlk), (M, fun o => o = oMp m), (R, fun o => o = oGst ⟨0, 0, ⟨0, 0, 0, 0, 0⟩⟩)] Y from ⟨(HRZ.out.of EY).up (by omega), HHZ.out.of EY⟩)
        have HCY := hid (HCZ.out.trans (Chg.of_ext EY [p]))
        obtain ⟨_, hbS0, _⟩ := HJ.out.2.at (.head _)
        obtain ⟨_, hbM0, _⟩ := HJ.out.2.at (.tail _ (.head _))
        obtain ⟨_, hbR0, _⟩ := HJ.out.2.at (.tail _ (.tail _ (.head _)))
        have lS0 := lt_blk hbS0
        have lM0 := lt_blk hbM0
        have lR0 := lt_blk hbR0
        have hpW := HJ.out.1.lt
        clear hY EY HRZ HCZ HHZ hbS0 hbM0 hbR0
        refine wp_region_flowD [some 34, some 35, some 36, some 37, some 38, some 39, some 40, some 41, some 42, some 43, some 44, some 6, none] (fun a b => ChgT Y.heap.size [p] IsGst a b) (fun i a b => match i with | 12 => Turn Y.heap.size IsGst a b | _ => Chg [p] a b) (fun k9 w9 => Rdr lo p ((Q + 60) + 1 * k9) w9 ∧ Held [(S, IsWlk), (M, fun o => o = oMp m), (R, fun o => o = oGst ⟨0, 0, ⟨0, 0, 0, 0, 0⟩⟩)] w9) (fun i v9 w9 => match i with
          | 0 => v9 = .agg #[.int .i64 (m.c), .int .i64 (m.w)]
          | 1 => v9 = .pointer (some ⟨S, 1, none⟩)
          | 2 => ∃ x : Int, v9 = .int .i64 x
          | 3 => ∃ x : Int, v9 = .int .i64 x ∧ (-1 ≤ x ∧ x ≤ 3)
          | 4 => MkI Y.heap.size 5 (0) (7) (v9) w9
          | 5 => v9 = .pointer (some ⟨p, 0, none⟩)
          | 6 => InI 0 (4) (v9)
          | 7 => PtI Y.heap.size 5 (0) (7) (v9) w9
          | 8 => InI (0) (7) (v9)
          | 9 => InWu (v9)
          | 10 => InG (v9)
          | 11 => PtB Y.heap.size IsGst (v9) w9
          | _ => True) (by kernel_rfl) (by decide +kernel) (by simp) (fun a => ChgT.refl _ _ _ a) (fun a b c h k => ChgT.trans h k) ?_ (ChgT.of (Chg.drew (Chg.refl [] _)) (by simp)) ?_ ?_ ?_ ?_
        · intro i a b hi hG
          have hi9 : i < 13 := hi
          clear hi
          match i, hi9, hG with
          | 0, _, hG => exact ChgT.of hG (by simp; omega)
          | 1, _, hG => exact ChgT.of hG (by simp; omega)
          | 2, _, hG => exact ChgT.of hG (by simp; omega)
          | 3, _, hG => exact ChgT.of hG (by simp; omega)
          | 4, _, hG => exact ChgT.of hG (by simp; omega)
          | 5, _, hG => exact ChgT.of hG (by simp; omega)
          | 6, _, hG => exact ChgT.of hG (by simp; omega)
          | 7, _, hG => exact ChgT.of hG (by simp; omega)
          | 8, _, hG => exact ChgT.of hG (by simp; omega)
          | 9, _, hG => exact ChgT.of hG (by simp; omega)
          | 10, _, hG => exact ChgT.of hG (by simp; omega)
          | 11, _, hG => exact ChgT.of hG (by simp; omega)
          | 12, _, hG => exact Turn.chgT hG
          | n + 13, h9, _ => exact absurd h9 (by omega)
        · exact ⟨HJ.out.1.of zq0, HJ.out.2.drw⟩
        · intro i j hi hj hij v9 w9 w8 hg hS hG
          have hi9 : i < 13 := hi
          have hj9 : j < 13 := hj
          have hG0 := hG
          have hG2 : ChgT Y.heap.size [p] IsGst w9 w8 := by
            clear hG0 hij hi hj hS
            match i, hi9, hG with
            | 0, _, hG => exact ChgT.of hG (by simp; omega)
            | 1, _, hG => exact ChgT.of hG (by simp; omega)
            | 2, _, hG => exact ChgT.of hG (by simp; omega)
            | 3, _, hG => exact ChgT.of hG (by simp; omega)
            | 4, _, hG => exact ChgT.of hG (by simp; omega)
            | 5, _, hG => exact ChgT.of hG (by simp; omega)
            | 6, _, hG => exact ChgT.of hG (by simp; omega)
            | 7, _, hG => exact ChgT.of hG (by simp; omega)
            | 8, _, hG => exact ChgT.of hG (by simp; omega)
            | 9, _, hG => exact ChgT.of hG (by simp; omega)
            | 10, _, hG => exact ChgT.of hG (by simp; omega)
            | 11, _, hG => exact ChgT.of hG (by simp; omega)
            | 12, _, hG => exact Turn.chgT hG
            | n + 13, h9, _ => exact absurd h9 (by omega)
          clear hi hj hG
          match j, hj9 with
          | 0, _ => exact hS
          | 1, _ => exact hS
          | 2, _ => exact hS
          | 3, _ => exact hS
          | 4, _ => exact MkI.chgT hS hG2 noInt_Gst
          | 5, _ => exact hS
          | 6, _ => exact hS
          | 7, _ => exact PtI.chgT hS hG2 noInt_Gst
          | 8, _ => exact hS
          | 9, _ => exact hS
          | 10, _ => exact hS
          | 11, _ => exact PtB.chgT hS hG2
          | 12, _ => exact hS
          | n + 13, h9 => exact absurd h9 (by omega)
        · intro i oo ho σ k9 w9 hG hk9 hJ hd
          have HG := hid hG
          have HJ9 := hid hJ
          have hW9 := hG.size
          have hkN : k9 < 13 := hk9
          have hi9 : i < 13 := (List.getElem?_eq_some_iff.1 ho).1
          clear hG hJ hk9
          match i, hi9, ho with
          | 0, _, ho =>
            obtain ⟨_, hbm, rfl⟩ := HJ9.out.2.at (.tail _ (.head _))
            have cM0 := (cell_blk hbm 0).trans (show _ = some (Value.int .i64 m.c) from rfl)
            have cM1 := (cell_blk hbm 1).trans (show _ = some (Value.int .i64 m.w) from rfl)
            have zM0 := frozen_blk hbm 0
            have zM1 := frozen_blk hbm 1
            have lM9 := lt_blk hbm
            clear hbm
            obtain rfl := Option.some.inj ho
            clear hd ho
            simp only [actO, putO, List.setIfInBounds_toArray, List.set_cons_zero, List.set_cons_succ, Nat.reduceAdd]
            refine flow_K (fun K hK => ?_)
            go_simp
            (show K _ _)
            refine hK _ _ ⟨_, rfl, by simp, Chg.of_ext (show Ext _ _ from zq0) _, ⟨(HJ9.out.1.of (show Ext _ _ from zq0)).up (by omega), HJ9.out.2.of (show Ext _ _ from zq0)⟩, rfl⟩
          | 1, _, ho =>
            obtain rfl := Option.some.inj ho
            clear hd ho
            simp only [actO, putO, List.setIfInBounds_toArray, List.set_cons_zero, List.set_cons_succ, Nat.reduceAdd]
            refine flow_K (fun K hK => ?_)
            go_simp
            (show K _ _)
            refine hK _ _ ⟨_, rfl, by simp, Chg.of_ext (show Ext _ _ from zq0) _, ⟨(HJ9.out.1.of (show Ext _ _ from zq0)).up (by omega), HJ9.out.2.of (show Ext _ _ from zq0)⟩, rfl⟩
          | 2, _, ho =>
            have e1 : σ 1 = .pointer (some ⟨S, 1, none⟩) := hd 1 (by obtain rfl := Option.some.inj ho; kernel_rfl)
            obtain ⟨_, hb, x0, rfl⟩ := HJ9.out.2.at (.head _)
            have cU := (cell_blk hb 1).trans rfl
            have zU := frozen_blk hb 1
            have lU := lt_blk hb
            obtain rfl := Option.some.inj ho
            clear hd ho
            simp only [actO, putO, List.setIfInBounds_toArray, List.set_cons_zero, List.set_cons_succ, Nat.reduceAdd, e1]
            refine flow_K (fun K hK => ?_)
            go_simp
            (show K _ _)
            refine hK _ _ ⟨_, rfl, by simp, Chg.of_ext (show Ext _ _ from zq0) _, ⟨(HJ9.out.1.of (show Ext _ _ from zq0)).up (by omega), HJ9.out.2.of (show Ext _ _ from zq0)⟩, ⟨_, rfl⟩⟩
          | 3, _, ho =>
            have e0 : σ 0 = .agg #[.int .i64 (m.c), .int .i64 (m.w)] := hd 0 (by obtain rfl := Option.some.inj ho; kernel_rfl)
            obtain ⟨x2, e2⟩ : ∃ x : Int, σ 2 = .int .i64 x := hd 2 (by obtain rfl := Option.some.inj ho; kernel_rfl)
            obtain rfl := Option.some.inj ho
            clear hd ho
            simp only [actO, putO, List.setIfInBounds_toArray, List.set_cons_zero, List.set_cons_succ, Nat.reduceAdd, e0, e2]
            refine flow_K (fun K hK => ?_)
            have HRd := hid HJ9.out.1
            go_simp
            refine (sPlcCell_c m x2 w9).mono ?_
            rintro e w8 ⟨rfl, hE8⟩; have hC8 : Chg [p] w9 w8 := Chg.of_ext hE8 _; have hR8 := HJ9.out.1.of hE8
            (show K _ _)
            refine hK _ _ ⟨_, rfl, by simp, hC8, ⟨hR8.up (by omega), HJ9.out.2.chg hC8 (by simp; omega)⟩, ⟨_, rfl, plcCell_lo m _⟩⟩
          | 4, _, ho =>
            obtain rfl := Option.some.inj ho
            clear hd ho
            simp only [actO, putO, List.setIfInBounds_toArray, List.set_cons_zero, List.set_cons_succ, Nat.reduceAdd]
            refine flow_K (fun K hK => ?_)
            go_simp
            (show K _ _)
            refine hK _ _ ⟨_, rfl, by simp, Chg.of_ext (show Ext _ _ from zq0) _, ⟨(HJ9.out.1.of (show Ext _ _ from zq0)).up (by omega), HJ9.out.2.of (show Ext _ _ from zq0)⟩, ⟨_, rfl, by (try simp [go_sem]) <;> omega, ⟨_, heap_new (by simp [go_sem]), fun i hi => ?_⟩⟩⟩
            match i, hi with
            | 0, _ => exact ⟨0, rfl, by omega, by omega⟩
            | 1, _ => exact ⟨1, rfl, by omega, by omega⟩
            | 2, _ => exact ⟨2, rfl, by omega, by omega⟩
            | 3, _ => exact ⟨3, rfl, by omega, by omega⟩
            | 4, _ => exact ⟨7, rfl, by omega, by omega⟩
          | 5, _, ho =>
            obtain rfl := Option.some.inj ho
            clear hd ho
            simp only [actO, putO, List.setIfInBounds_toArray, List.set_cons_zero, List.set_cons_succ, Nat.reduceAdd]
            refine flow_K (fun K hK => ?_)
            go_simp
            (show K _ _)
            refine hK _ _ ⟨_, rfl, by simp, Chg.of_ext (show Ext _ _ from zq0) _, ⟨(HJ9.out.1.of (show Ext _ _ from zq0)).up (by omega), HJ9.out.2.of (show Ext _ _ from zq0)⟩, rfl⟩
          | 6, _, ho =>
            have e5 : σ 5 = .pointer (some ⟨p, 0, none⟩) := hd 5 (by obtain rfl := Option.some.inj ho; kernel_rfl)
            obtain rfl := Option.some.inj ho
            clear hd ho
            simp only [actO, putO, List.setIfInBounds_toArray, List.set_cons_zero, List.set_cons_succ, Nat.reduceAdd, e5]
            refine flow_K (fun K hK => ?_)
            have HRd := hid HJ9.out.1
            go_simp
            refine (pick_c lo p _ (5) w9 HRd.out (by omega) (by omega) (by omega)).mono ?_
            rintro e w8 ⟨vv, rfl, hv0, hv1, hR8, hC8⟩
            (show K _ _)
            refine hK _ _ ⟨_, rfl, by simp, hC8, ⟨hR8.up (by omega), HJ9.out.2.chg hC8 (by simp; omega)⟩, ⟨vv, rfl, hv0, by omega⟩⟩
          | 7, _, ho =>
            obtain ⟨b4, e4, hb4, ha4⟩ : MkI Y.heap.size 5 (0) (7) (σ 4) _ := hd 4 (by obtain rfl := Option.some.inj ho; kernel_rfl)
            obtain ⟨x6, e6, y6, z6⟩ : InI 0 (4) (σ 6) := hd 6 (by obtain rfl := Option.some.inj ho; kernel_rfl)
            obtain ⟨i6, rfl⟩ : ∃ i : Nat, x6 = (i : Int) := ⟨x6.toNat, by omega⟩
            have hin : i6 < 5 := by omega
            have hin2 : (i6 : Int) < 5 := by omega
            obtain rfl := Option.some.inj ho
            clear hd ho
            simp only [actO, putO, List.setIfInBounds_toArray, List.set_cons_zero, List.set_cons_succ, Nat.reduceAdd, e4, e6]
            refine flow_K (fun K hK => ?_)
            go_simp
            (show K _ _)
            refine hK _ _ ⟨_, rfl, by simp, Chg.of_ext (show Ext _ _ from zq0) _, ⟨(HJ9.out.1.of (show Ext _ _ from zq0)).up (by omega), HJ9.out.2.of (show Ext _ _ from zq0)⟩, ⟨_, _, rfl, hin, hb4, ha4⟩⟩
          | 8, _, ho =>
            obtain ⟨b7, k7, e7, hk7, hb7, ha7⟩ : PtI Y.heap.size 5 (0) (7) (σ 7) _ := hd 7 (by obtain rfl := Option.some.inj ho; kernel_rfl)
            obtain ⟨y, hy, hy0, hy1⟩ := index_at ha7 hk7
            obtain rfl := Option.some.inj ho
            clear hd ho
            simp only [actO, putO, List.setIfInBounds_toArray, List.set_cons_zero, List.set_cons_succ, Nat.reduceAdd, e7]
            refine flow_K (fun K hK => ?_)
            go_simp
            (show K _ _)
            refine hK _ _ ⟨_, rfl, by simp, Chg.of_ext (show Ext _ _ from zq0) _, ⟨(HJ9.out.1.of (show Ext _ _ from zq0)).up (by omega), HJ9.out.2.of (show Ext _ _ from zq0)⟩, ⟨y, rfl, hy0, hy1⟩⟩
          | 9, _, ho =>
            obtain ⟨_, hb, x0, rfl⟩ := HJ9.out.2.at (.head _)
            have cU0 := (cell_blk hb 0).trans (show _ = some (Value.int .i64 x0.id) from rfl)
            have zU0 := frozen_blk hb 0
            have cU1 := (cell_blk hb 1).trans (show _ = some (Value.int .i64 x0.at_) from rfl)
            have zU1 := frozen_blk hb 1
            have cU2 := (cell_blk hb 2).trans (show _ = some (Value.int .i64 x0.coins) from rfl)
            have zU2 := frozen_blk hb 2
            have cU3 := (cell_blk hb 3).trans (show _ = some (Value.int .i64 x0.seq) from rfl)
            have zU3 := frozen_blk hb 3
            have cU4 := (cell_blk hb 4).trans (show _ = some (Value.int .i64 x0.last) from rfl)
            have zU4 := frozen_blk hb 4
            have lU := lt_blk hb
            clear hb
            obtain rfl := Option.some.inj ho
            clear hd ho
            simp only [actO, putO, List.setIfInBounds_toArray, List.set_cons_zero, List.set_cons_succ, Nat.reduceAdd]
            refine flow_K (fun K hK => ?_)
            go_simp
            (show K _ _)
            refine hK _ _ ⟨_, rfl, by simp, Chg.of_ext (show Ext _ _ from zq0) _, ⟨(HJ9.out.1.of (show Ext _ _ from zq0)).up (by omega), HJ9.out.2.of (show Ext _ _ from zq0)⟩, ⟨x0, rfl, trivial⟩⟩
          | 10, _, ho =>
            obtain ⟨x3, e3, h3⟩ : ∃ x : Int, σ 3 = .int .i64 x ∧ (-1 ≤ x ∧ x ≤ 3) := hd 3 (by obtain rfl := Option.some.inj ho; kernel_rfl)
            obtain ⟨x8, e8, y8, z8⟩ : InI (0) (7) (σ 8) := hd 8 (by obtain rfl := Option.some.inj ho; kernel_rfl)
            obtain ⟨x9, e9, h9⟩ : InWu (σ 9) := hd 9 (by obtain rfl := Option.some.inj ho; kernel_rfl)
            obtain rfl := Option.some.inj ho
            clear hd ho
            simp only [actO, putO, List.setIfInBounds_toArray, List.set_cons_zero, List.set_cons_succ, Nat.reduceAdd, e3, e8, e9]
            refine flow_K (fun K hK => ?_)
            go_simp
            (show K _ _)
            refine hK _ _ ⟨_, rfl, by simp, Chg.of_ext (show Ext _ _ from zq0) _, ⟨(HJ9.out.1.of (show Ext _ _ from zq0)).up (by omega), HJ9.out.2.of (show Ext _ _ from zq0)⟩, ⟨⟨x3, x8, x9⟩, rfl, trivial⟩⟩
          | 11, _, ho =>
            obtain rfl := Option.some.inj ho
            clear hd ho
            simp only [actO, putO, List.setIfInBounds_toArray, List.set_cons_zero, List.set_cons_succ, Nat.reduceAdd]
            refine flow_K (fun K hK => ?_)
            go_simp
            (show K _ _)
            refine hK _ _ ⟨_, rfl, by simp, Chg.of_ext (show Ext _ _ from zq0) _, ⟨(HJ9.out.1.of (show Ext _ _ from zq0)).up (by omega), HJ9.out.2.of (show Ext _ _ from zq0)⟩, ⟨_, rfl, by (try simp [go_sem]) <;> omega, _, heap_new (by simp [go_sem]), ⟨⟨0, 0, ⟨0, 0, 0, 0, 0⟩⟩, rfl⟩⟩⟩
          | 12, _, ho =>
            obtain ⟨b11, e11, hb11, _, ho11, x11, rfl⟩ : PtB Y.heap.size IsGst (σ 11) _ := hd 11 (by obtain rfl := Option.some.inj ho; kernel_rfl)
            obtain ⟨x10, e10, h10⟩ : InG (σ 10) := hd 10 (by obtain rfl := Option.some.inj ho; kernel_rfl)
            have cR0 := (cell_blk ho11 0).trans rfl
            have zR0 := frozen_blk ho11 0
            have cR1 := (cell_blk ho11 1).trans rfl
            have zR1 := frozen_blk ho11 1
            have cR2 := (cell_blk ho11 2).trans rfl
            have zR2 := frozen_blk ho11 2
            have cR3 := (cell_blk ho11 3).trans rfl
            have zR3 := frozen_blk ho11 3
            have cR4 := (cell_blk ho11 4).trans rfl
            have zR4 := frozen_blk ho11 4
            have cR5 := (cell_blk ho11 5).trans rfl
            have zR5 := frozen_blk ho11 5
            have cR6 := (cell_blk ho11 6).trans rfl
            have zR6 := frozen_blk ho11 6
            have lR9 := lt_blk ho11
            have HB0 := hid ho11
            clear ho11
            obtain rfl := Option.some.inj ho
            clear hd ho
            simp only [actO, putO, List.setIfInBounds_toArray, List.set_cons_zero, List.set_cons_succ, Nat.reduceAdd, e11, e10]
            refine flow_K (fun K hK => ?_)
            go_simp
            (show K _ _)
            refine hK _ _ ⟨undef, rfl, fun _ => rfl, ⟨b11, _, oGst x10, hb11, HB0.out, gst_store (x := x10) HB0.out, ⟨_, rfl⟩, ⟨_, rfl⟩, zq1⟩, ⟨(HJ9.out.1.chg (B := [b11]) zq1 (by simp; omega) (Nat.le_refl _)).up (by omega), HJ9.out.2.chg (B := [b11]) zq1 (by simp; omega)⟩, trivial⟩
        · intro σ w9 hG hJ hd
          have e0 : σ 0 = .agg #[.int .i64 (m.c), .int .i64 (m.w)] := hd 0 (by decide)
          have e1 : σ 1 = .pointer (some ⟨S, 1, none⟩) := hd 1 (by decide)
          obtain ⟨x2, e2⟩ : ∃ x : Int, σ 2 = .int .i64 x := hd 2 (by decide)
          obtain ⟨x3, e3, h3⟩ : ∃ x : Int, σ 3 = .int .i64 x ∧ (-1 ≤ x ∧ x ≤ 3) := hd 3 (by decide)
          obtain ⟨b4, e4, hb4, ha4⟩ : MkI Y.heap.size 5 (0) (7) (σ 4) _ := hd 4 (by decide)
          have e5 : σ 5 = .pointer (some ⟨p, 0, none⟩) := hd 5 (by decide)
          obtain ⟨x6, e6, y6, z6⟩ : InI 0 (4) (σ 6) := hd 6 (by decide)
          obtain ⟨b7, k7, e7, hk7, hb7, ha7⟩ : PtI Y.heap.size 5 (0) (7) (σ 7) _ := hd 7 (by decide)
          obtain ⟨x8, e8, y8, z8⟩ : InI (0) (7) (σ 8) := hd 8 (by decide)
          obtain ⟨x9, e9, h9⟩ : InWu (σ 9) := hd 9 (by decide)
          obtain ⟨x10, e10, h10⟩ : InG (σ 10) := hd 10 (by decide)
          obtain ⟨b11, e11, hb11, _, ho11, x11, rfl⟩ : PtB Y.heap.size IsGst (σ 11) _ := hd 11 (by decide)
          have HG := hid hG
          have HJ9 := hid (show Rdr lo p ((Q + 60) + 1 * 13) w9 ∧ Held [(S, IsWlk), (M, fun o => o = oMp m), (R, fun o => o = oGst ⟨0, 0, ⟨0, 0, 0, 0, 0⟩⟩)] w9 from hJ)
          clear hd hG hJ
          simp only [actO, putO, List.setIfInBounds_toArray, List.set_cons_zero, List.set_cons_succ, Nat.reduceAdd, e0, e1, e2, e3, e4, e5, e6, e7, e8, e9, e10, e11]
          clear e0 e1 e2 e3 e4 e5 e6 e7 e8 e9 e10 e11
          have HRW := hid HJ9.out.1
          have HHW := hid HJ9.out.2
          have HCW := hid (HCY.out.trans (HG.out.chg rfl))
          obtain ⟨G, hGe⟩ : ∃ G, b11 = G := ⟨_, rfl⟩
          rw [hGe] at hb11 ho11 ⊢
          have HOW := hid ho11
          have hGp : G ≠ p := by omega
          have hGR : G ≠ R := by omega
          have hRG : R ≠ G := by omega
          have hwG : w.heap.size ≤ G := by have := HCY.out.size; omega
          obtain ⟨g, hge⟩ : ∃ g, x11 = g := ⟨_, rfl⟩
          rw [hge] at HOW
          clear HG HJ9 HJ HCY ho11 hGe hge
          try go_wp2_with (first
              | fail
              | (
                with_reducible refine wp_region_mix (by kernel_rfl) (by decide +kernel) ?_
                repeat (first
                  | (refine mix_pure rfl ?_; (first | go_big_quiet_skip | (go_big_quiet_want; go_big_quiet_op; go_big_quiet_on)); refine wpQuiet_nil ?_)
                  | (refine mix_skip (by rfl) ?_; (try simp only [Act.put, List.setIfInBounds_toArray, List.set_cons_zero, List.set_cons_succ]))
                  | (refine mix_mk rfl (by rfl) (fun K hK => ?_); (first | (go_simp; first | skip)); (show K _ _); refine hK _ _ (show Ext _ _ from zq0) ?_; clear hK K; (try simp only [Act.put, List.setIfInBounds_toArray, List.set_cons_zero, List.set_cons_succ])))
                refine mix_nil ?_)
              | (
                with_reducible refine wp_region_ext (by kernel_rfl) (by kernel_rfl) ?_
                repeat (first | go_big_quiet_skip | (go_big_quiet_want; go_big_quiet_op; first | go_big_quiet_on | (apply Exists.intro; refine ⟨fun _ => ?_, ?_⟩; (fail); (try rw [h1]); (try rw [h2]); (try rw [h3]); (try rw [h4]); (try rw [p1]); (try rw [p2]); (try rw [p3]); (try rw [p4]); (try rw [r1]); (try rw [r2]); (try rw [r3]); (try rw [r4]); (try rw [r5]); (try rw [r6]); (try rw [q3]); (try rw [q4]); (try rw [hp]); (try rw [hq]); go_big_quiet_on)))
                refine wpQuiet_nil ?_
                rintro _ ⟨tq, rfl⟩))
          refine calls_gen fun X hX => ?_
          have EX : Ext w9 X := by rw [hX]; ((try simp only [ext_drew]); (try simp only [ext_ext]); repeat (first | exact Ext.refl _ | with_reducible apply Ext.add | with_reducible apply Ext.dr | apply Ext.alloc | apply Ext.ext | apply Ext.drew | refine Ext.trans ?_ (by assumption)))
          have bg := (EX.block (lt_blk HOW.out)).trans HOW.out
          have HHX := hid (HHW.out.of EX)
          have HRX := hid (HRW.out.of EX)
          have HCX := hid (HCW.out.trans (Chg.of_ext EX [p]))
          clear hX EX HRW HHW HCW HOW
          refine (pick_c lo p _ 20 X HRX.out (by omega) (by omega) (by omega)).mono ?_
          rintro e Z ⟨v, rfl, hv0, hv1, hRZ, hCZ⟩
          have HOZ := hid ((hCZ.block G (lt_blk bg) (by simpa using hGp)).trans bg)
          have HHZ := hid (HHX.out.chg hCZ (by simp; omega))
          have HRZ := hid (hRZ.up (show _ ≤ Q + 80 by omega))
          have HCZ := hid (HCX.out.trans hCZ)
          obtain ⟨_, hbR, rfl⟩ := HHZ.out.at (.tail _ (.tail _ (.head _)))
          have bgZ := HOZ.out
          have cg0 : Z.cell? ⟨G, 0, none⟩ = some (.int .i64 g.src) := (cell_blk bgZ 0).trans rfl
          have cg1 : Z.cell? ⟨G, 1, none⟩ = some (.int .i64 g.count) := (cell_blk bgZ 1).trans rfl
          have cg2 : Z.cell? ⟨G, 2, none⟩ = some (.int .i64 g.wk.id) := (cell_blk bgZ 2).trans rfl
          have cg3 : Z.cell? ⟨G, 3, none⟩ = some (.int .i64 g.wk.at_) := (cell_blk bgZ 3).trans rfl
          have cg4 : Z.cell? ⟨G, 4, none⟩ = some (.int .i64 g.wk.coins) := (cell_blk bgZ 4).trans rfl
          have cg5 : Z.cell? ⟨G, 5, none⟩ = some (.int .i64 g.wk.seq) := (cell_blk bgZ 5).trans rfl
          have cg6 : Z.cell? ⟨G, 6, none⟩ = some (.int .i64 g.wk.last) := (cell_blk bgZ 6).trans rfl
          have zcg0 := frozen_blk bgZ 0
          have zcg1 := frozen_blk bgZ 1
          have zcg2 := frozen_blk bgZ 2
          have zcg3 := frozen_blk bgZ 3
          have zcg4 := frozen_blk bgZ 4
          have zcg5 := frozen_blk bgZ 5
          have zcg6 := frozen_blk bgZ 6
          have cr0 : Z.cell? ⟨R, 0, none⟩ = some (.int .i64 0) := (cell_blk hbR 0).trans rfl
          have cr1 : Z.cell? ⟨R, 1, none⟩ = some (.int .i64 0) := (cell_blk hbR 1).trans rfl
          have cr2 : Z.cell? ⟨R, 2, none⟩ = some (.int .i64 0) := (cell_blk hbR 2).trans rfl
          have cr3 : Z.cell? ⟨R, 3, none⟩ = some (.int .i64 0) := (cell_blk hbR 3).trans rfl
          have cr4 : Z.cell? ⟨R, 4, none⟩ = some (.int .i64 0) := (cell_blk hbR 4).trans rfl
          have cr5 : Z.cell? ⟨R, 5, none⟩ = some (.int .i64 0) := (cell_blk hbR 5).trans rfl
          have cr6 : Z.cell? ⟨R, 6, none⟩ = some (.int .i64 0) := (cell_blk hbR 6).trans rfl
          have zcr0 := frozen_blk hbR 0
          have zcr1 := frozen_blk hbR 1
          have zcr2 := frozen_blk hbR 2
          have zcr3 := frozen_blk hbR 3
          have zcr4 := frozen_blk hbR 4
          have zcr5 := frozen_blk hbR 5
          have zcr6 := frozen_blk hbR 6
          have lg := lt_blk bgZ
          have lr := lt_blk hbR
          clear bg hRZ hCZ HRX HHX HCX bgZ hbR
          by_cases h0 : v = 0
          · subst h0
            clear cg0 cg1 cg2 cg3 cg4 cg5 cg6 zcg0 zcg1 zcg2 zcg3 zcg4 zcg5 zcg6 cr0 cr1 cr2 cr3 cr4 cr5 cr6 zcr0 zcr1 zcr2 zcr3 zcr4 zcr5 zcr6 lg lr
            try go_wp2_with (first
                | fail
                | (
                  with_reducible refine wp_region_mix (by kernel_rfl) (by decide +kernel) ?_
                  repeat (first
                    | (refine mix_pure rfl ?_; (first | go_big_quiet_skip | (go_big_quiet_want; go_big_quiet_op; go_big_quiet_on)); refine wpQuiet_nil ?_)
                    | (refine mix_skip (by rfl) ?_; (try simp only [Act.put, List.setIfInBounds_toArray, List.set_cons_zero, List.set_cons_succ]))
                    | (refine mix_mk rfl (by rfl) (fun K hK => ?_); (first | (go_simp; first | skip)); (show K _ _); refine hK _ _ (show Ext _ _ from zq0) ?_; clear hK K; (try simp only [Act.put, List.setIfInBounds_toArray, List.set_cons_zero, List.set_cons_succ])))
                  refine mix_nil ?_)
                | (
                  with_reducible refine wp_region_ext (by kernel_rfl) (by kernel_rfl) ?_
                  repeat (first | go_big_quiet_skip | (go_big_quiet_want; go_big_quiet_op; first | go_big_quiet_on | (apply Exists.intro; refine ⟨fun _ => ?_, ?_⟩; (fail); (try rw [h1]); (try rw [h2]); (try rw [h3]); (try rw [h4]); (try rw [p1]); (try rw [p2]); (try rw [p3]); (try rw [p4]); (try rw [r1]); (try rw [r2]); (try rw [r3]); (try rw [r4]); (try rw [r5]); (try rw [r6]); (try rw [q3]); (try rw [q4]); (try rw [hp]); (try rw [hq]); go_big_quiet_on)))
                  refine wpQuiet_nil ?_
                  rintro _ ⟨tq, rfl⟩))
            refine calls_gen fun X hX => ?_
            obtain ⟨A, hA⟩ : ∃ A, Z.heap.size = A := ⟨_, rfl⟩
            have EX : Ext Z X := by rw [hX]; ((try simp only [ext_drew]); (try simp only [ext_ext]); repeat (first | exact Ext.refl _ | with_reducible apply Ext.add | with_reducible apply Ext.dr | apply Ext.alloc | apply Ext.ext | apply Ext.drew | refine Ext.trans ?_ (by assumption)))
            have ba : X.heap[A]? = some (.cells #[.int .i64 (-1), .int .i64 4, .int .i64 0, .int .i64 1] 3 (0, 0)) := by rw [hX, ← hA]; exact zq3
            have HHX := hid (HHZ.out.of EX)
            have bg := (EX.block (lt_blk HOZ.out)).trans HOZ.out
            have HRX := hid (HRZ.out.of EX)
            have HCX := hid (HCZ.out.trans (Chg.of_ext EX [p]))
            have lpZ := HRZ.out.lt
            rw [hA]
            have hAp : A ≠ p := by omega
            clear hX EX hA HRZ HCZ HHZ HOZ
            refine (pick_c lo p _ 4 X HRX.out (by omega) (by omega) (by omega)).mono ?_
            rintro e V ⟨v, rfl, hv0', hv1', hRV, hCV⟩
            obtain ⟨i, rfl⟩ : ∃ i : Nat, v = (i : Int) := ⟨v.toNat, by omega⟩
            have baV := (hCV.block A (lt_blk ba) (by simpa using hAp)).trans ba
            have bgV := (hCV.block G (lt_blk bg) (by simpa using hGp)).trans bg
            obtain ⟨_, hbR, rfl⟩ := (HHX.out.chg hCV (by simp; omega)).at (.tail _ (.tail _ (.head _)))
            obtain ⟨y, hyx, hyc⟩ := arr_at (xs := [-1, 4, 0, 1]) (i := i) baV (by simp; omega)
            have HRV := hid hRV
            have HCV := hid (HCX.out.trans hCV)
            have la := lt_blk baV
            have za := frozen_blk baV i
            have hin : (i : Int) < 4 := by omega
            have cg0 : V.cell? ⟨G, 0, none⟩ = some (.int .i64 g.src) := (cell_blk bgV 0).trans rfl
            have cg1 : V.cell? ⟨G, 1, none⟩ = some (.int .i64 g.count) := (cell_blk bgV 1).trans rfl
            have cg2 : V.cell? ⟨G, 2, none⟩ = some (.int .i64 g.wk.id) := (cell_blk bgV 2).trans rfl
            have cg3 : V.cell? ⟨G, 3, none⟩ = some (.int .i64 g.wk.at_) := (cell_blk bgV 3).trans rfl
            have cg4 : V.cell? ⟨G, 4, none⟩ = some (.int .i64 g.wk.coins) := (cell_blk bgV 4).trans rfl
            have cg5 : V.cell? ⟨G, 5, none⟩ = some (.int .i64 g.wk.seq) := (cell_blk bgV 5).trans rfl
            have cg6 : V.cell? ⟨G, 6, none⟩ = some (.int .i64 g.wk.last) := (cell_blk bgV 6).trans rfl
            have zcg0 := frozen_blk bgV 0
            have zcg1 := frozen_blk bgV 1
            have zcg2 := frozen_blk bgV 2
            have zcg3 := frozen_blk bgV 3
            have zcg4 := frozen_blk bgV 4
            have zcg5 := frozen_blk bgV 5
            have zcg6 := frozen_blk bgV 6
            have cr0 : V.cell? ⟨R, 0, none⟩ = some (.int .i64 0) := (cell_blk hbR 0).trans rfl
            have cr1 : V.cell? ⟨R, 1, none⟩ = some (.int .i64 0) := (cell_blk hbR 1).trans rfl
            have cr2 : V.cell? ⟨R, 2, none⟩ = some (.int .i64 0) := (cell_blk hbR 2).trans rfl
            have cr3 : V.cell? ⟨R, 3, none⟩ = some (.int .i64 0) := (cell_blk hbR 3).trans rfl
            have cr4 : V.cell? ⟨R, 4, none⟩ = some (.int .i64 0) := (cell_blk hbR 4).trans rfl
            have cr5 : V.cell? ⟨R, 5, none⟩ = some (.int .i64 0) := (cell_blk hbR 5).trans rfl
            have cr6 : V.cell? ⟨R, 6, none⟩ = some (.int .i64 0) := (cell_blk hbR 6).trans rfl
            have zcr0 := frozen_blk hbR 0
            have zcr1 := frozen_blk hbR 1
            have zcr2 := frozen_blk hbR 2
            have zcr3 := frozen_blk hbR 3
            have zcr4 := frozen_blk hbR 4
            have zcr5 := frozen_blk hbR 5
            have zcr6 := frozen_blk hbR 6
            have lg := lt_blk bgV
            have lr := lt_blk hbR
            clear ba bg baV bgV hbR hRV hCV HRX HCX HHX hyx
            try go_wp2_with (first
                | fail
                | (
                  with_reducible refine wp_region_mix (by kernel_rfl) (by decide +kernel) ?_
                  repeat (first
                    | (refine mix_pure rfl ?_; (first | go_big_quiet_skip | (go_big_quiet_want; go_big_quiet_op; go_big_quiet_on)); refine wpQuiet_nil ?_)
                    | (refine mix_skip (by rfl) ?_; (try simp only [Act.put, List.setIfInBounds_toArray, List.set_cons_zero, List.set_cons_succ]))
                    | (refine mix_mk rfl (by rfl) (fun K hK => ?_); (first | (go_simp; first | skip)); (show K _ _); refine hK _ _ (show Ext _ _ from zq0) ?_; clear hK K; (try simp only [Act.put, List.setIfInBounds_toArray, List.set_cons_zero, List.set_cons_succ])))
                  refine mix_nil ?_)
                | (
                  with_reducible refine wp_region_ext (by kernel_rfl) (by kernel_rfl) ?_
                  repeat (first | go_big_quiet_skip | (go_big_quiet_want; go_big_quiet_op; first | go_big_quiet_on | (apply Exists.intro; refine ⟨fun _ => ?_, ?_⟩; (fail); (try rw [h1]); (try rw [h2]); (try rw [h3]); (try rw [h4]); (try rw [p1]); (try rw [p2]); (try rw [p3]); (try rw [p4]); (try rw [r1]); (try rw [r2]); (try rw [r3]); (try rw [r4]); (try rw [r5]); (try rw [r6]); (try rw [q3]); (try rw [q4]); (try rw [hp]); (try rw [hq]); go_big_quiet_on)))
                  refine wpQuiet_nil ?_
                  rintro _ ⟨tq, rfl⟩))
            refine bodyPost_ret (v := .agg #[.int .i64 (({ g with src := y })).src, .int .i64 (({ g with src := y })).count, .int .i64 (({ g with src := y })).wk.id, .int .i64 (({ g with src := y })).wk.at_, .int .i64 (({ g with src := y })).wk.coins, .int .i64 (({ g with src := y })).wk.seq, .int .i64 (({ g with src := y })).wk.last]) (by simp [results, Try.results79, go_sem, cg0, cg1, cg2, cg3, cg4, cg5, cg6, cr0, cr1, cr2, cr3, cr4, cr5, cr6, lg, lr, hGR, hRG]) rfl ?_
            exact ⟨{ g with src := y }, rfl, (HRV.out.chg (B := [G, R]) zq2 (by simp; omega) (Nat.le_refl _)).up (by omega), Chg.fin (B := [G, R]) ((HCV.out.mono (B' := [p, G, R]) (by simp)).trans zq2) (by simp; omega)⟩
          · have q0 : (v == 0) = false := beq_f h0
            by_cases h1 : v = 1
            · subst h1
              clear cg0 cg1 cg2 cg3 cg4 cg5 cg6 zcg0 zcg1 zcg2 zcg3 zcg4 zcg5 zcg6 cr0 cr1 cr2 cr3 cr4 cr5 cr6 zcr0 zcr1 zcr2 zcr3 zcr4 zcr5 zcr6 lg lr h0 q0
              try go_wp2_with (first
                  | fail
                  | (
                    with_reducible refine wp_region_mix (by kernel_rfl) (by decide +kernel) ?_
                    repeat (first
                      | (refine mix_pure rfl ?_; (first | go_big_quiet_skip | (go_big_quiet_want; go_big_quiet_op; go_big_quiet_on)); refine wpQuiet_nil ?_)
                      | (refine mix_skip (by rfl) ?_; (try simp only [Act.put, List.setIfInBounds_toArray, List.set_cons_zero, List.set_cons_succ]))
                      | (refine mix_mk rfl (by rfl) (fun K hK => ?_); (first | (go_simp; first | skip)); (show K _ _); refine hK _ _ (show Ext _ _ from zq0) ?_; clear hK K; (try simp only [Act.put, List.setIfInBounds_toArray, List.set_cons_zero, List.set_cons_succ])))
                    refine mix_nil ?_)
                  | (
                    with_reducible refine wp_region_ext (by kernel_rfl) (by kernel_rfl) ?_
                    repeat (first | go_big_quiet_skip | (go_big_quiet_want; go_big_quiet_op; first | go_big_quiet_on | (apply Exists.intro; refine ⟨fun _ => ?_, ?_⟩; (fail); (try rw [h1]); (try rw [h2]); (try rw [h3]); (try rw [h4]); (try rw [p1]); (try rw [p2]); (try rw [p3]); (try rw [p4]); (try rw [r1]); (try rw [r2]); (try rw [r3]); (try rw [r4]); (try rw [r5]); (try rw [r6]); (try rw [q3]); (try rw [q4]); (try rw [hp]); (try rw [hq]); go_big_quiet_on)))
                    refine wpQuiet_nil ?_
                    rintro _ ⟨tq, rfl⟩))
              refine calls_gen fun X hX => ?_
              obtain ⟨A, hA⟩ : ∃ A, Z.heap.size = A := ⟨_, rfl⟩
              have EX : Ext Z X := by rw [hX]; ((try simp only [ext_drew]); (try simp only [ext_ext]); repeat (first | exact Ext.refl _ | with_reducible apply Ext.add | with_reducible apply Ext.dr | apply Ext.alloc | apply Ext.ext | apply Ext.drew | refine Ext.trans ?_ (by assumption)))
              have ba : X.heap[A]? = some (.cells #[.int .i64 (-1), .int .i64 250, .int .i64 251] 3 (0, 0)) := by rw [hX, ← hA]; exact zq3
              have HHX := hid (HHZ.out.of EX)
              have bg := (EX.block (lt_blk HOZ.out)).trans HOZ.out
              have HRX := hid (HRZ.out.of EX)
              have HCX := hid (HCZ.out.trans (Chg.of_ext EX [p]))
              have lpZ := HRZ.out.lt
              rw [hA]
              have hAp : A ≠ p := by omega
              clear hX EX hA HRZ HCZ HHZ HOZ
              refine (pick_c lo p _ 3 X HRX.out (by omega) (by omega) (by omega)).mono ?_
              rintro e V ⟨v, rfl, hv0', hv1', hRV, hCV⟩
              obtain ⟨i, rfl⟩ : ∃ i : Nat, v = (i : Int) := ⟨v.toNat, by omega⟩
              have baV := (hCV.block A (lt_blk ba) (by simpa using hAp)).trans ba
              have bgV := (hCV.block G (lt_blk bg) (by simpa using hGp)).trans bg
              obtain ⟨_, hbR, rfl⟩ := (HHX.out.chg hCV (by simp; omega)).at (.tail _ (.tail _ (.head _)))
              obtain ⟨y, hyx, hyc⟩ := arr_at (xs := [-1, 250, 251]) (i := i) baV (by simp; omega)
              have HRV := hid hRV
              have HCV := hid (HCX.out.trans hCV)
              have la := lt_blk baV
              have za := frozen_blk baV i
              have hin : (i : Int) < 3 := by omega
              have cg0 : V.cell? ⟨G, 0, none⟩ = some (.int .i64 g.src) := (cell_blk bgV 0).trans rfl
              have cg1 : V.cell? ⟨G, 1, none⟩ = some (.int .i64 g.count) := (cell_blk bgV 1).trans rfl
              have cg2 : V.cell? ⟨G, 2, none⟩ = some (.int .i64 g.wk.id) := (cell_blk bgV 2).trans rfl
              have cg3 : V.cell? ⟨G, 3, none⟩ = some (.int .i64 g.wk.at_) := (cell_blk bgV 3).trans rfl
              have cg4 : V.cell? ⟨G, 4, none⟩ = some (.int .i64 g.wk.coins) := (cell_blk bgV 4).trans rfl
              have cg5 : V.cell? ⟨G, 5, none⟩ = some (.int .i64 g.wk.seq) := (cell_blk bgV 5).trans rfl
              have cg6 : V.cell? ⟨G, 6, none⟩ = some (.int .i64 g.wk.last) := (cell_blk bgV 6).trans rfl
              have zcg0 := frozen_blk bgV 0
              have zcg1 := frozen_blk bgV 1
              have zcg2 := frozen_blk bgV 2
              have zcg3 := frozen_blk bgV 3
              have zcg4 := frozen_blk bgV 4
              have zcg5 := frozen_blk bgV 5
              have zcg6 := frozen_blk bgV 6
              have cr0 : V.cell? ⟨R, 0, none⟩ = some (.int .i64 0) := (cell_blk hbR 0).trans rfl
              have cr1 : V.cell? ⟨R, 1, none⟩ = some (.int .i64 0) := (cell_blk hbR 1).trans rfl
              have cr2 : V.cell? ⟨R, 2, none⟩ = some (.int .i64 0) := (cell_blk hbR 2).trans rfl
              have cr3 : V.cell? ⟨R, 3, none⟩ = some (.int .i64 0) := (cell_blk hbR 3).trans rfl
              have cr4 : V.cell? ⟨R, 4, none⟩ = some (.int .i64 0) := (cell_blk hbR 4).trans rfl
              have cr5 : V.cell? ⟨R, 5, none⟩ = some (.int .i64 0) := (cell_blk hbR 5).trans rfl
              have cr6 : V.cell? ⟨R, 6, none⟩ = some (.int .i64 0) := (cell_blk hbR 6).trans rfl
              have zcr0 := frozen_blk hbR 0
              have zcr1 := frozen_blk hbR 1
              have zcr2 := frozen_blk hbR 2
              have zcr3 := frozen_blk hbR 3
              have zcr4 := frozen_blk hbR 4
              have zcr5 := frozen_blk hbR 5
              have zcr6 := frozen_blk hbR 6
              have lg := lt_blk bgV
              have lr := lt_blk hbR
              clear ba bg baV bgV hbR hRV hCV HRX HCX HHX hyx
              try go_wp2_with (first
                  | fail
                  | (
                    with_reducible refine wp_region_mix (by kernel_rfl) (by decide +kernel) ?_
                    repeat (first
                      | (refine mix_pure rfl ?_; (first | go_big_quiet_skip | (go_big_quiet_want; go_big_quiet_op; go_big_quiet_on)); refine wpQuiet_nil ?_)
                      | (refine mix_skip (by rfl) ?_; (try simp only [Act.put, List.setIfInBounds_toArray, List.set_cons_zero, List.set_cons_succ]))
                      | (refine mix_mk rfl (by rfl) (fun K hK => ?_); (first | (go_simp; first | skip)); (show K _ _); refine hK _ _ (show Ext _ _ from zq0) ?_; clear hK K; (try simp only [Act.put, List.setIfInBounds_toArray, List.set_cons_zero, List.set_cons_succ])))
                    refine mix_nil ?_)
                  | (
                    with_reducible refine wp_region_ext (by kernel_rfl) (by kernel_rfl) ?_
                    repeat (first | go_big_quiet_skip | (go_big_quiet_want; go_big_quiet_op; first | go_big_quiet_on | (apply Exists.intro; refine ⟨fun _ => ?_, ?_⟩; (fail); (try rw [h1]); (try rw [h2]); (try rw [h3]); (try rw [h4]); (try rw [p1]); (try rw [p2]); (try rw [p3]); (try rw [p4]); (try rw [r1]); (try rw [r2]); (try rw [r3]); (try rw [r4]); (try rw [r5]); (try rw [r6]); (try rw [q3]); (try rw [q4]); (try rw [hp]); (try rw [hq]); go_big_quiet_on)))
                    refine wpQuiet_nil ?_
                    rintro _ ⟨tq, rfl⟩))
              refine bodyPost_ret (v := .agg #[.int .i64 (({ g with count := y })).src, .int .i64 (({ g with count := y })).count, .int .i64 (({ g with count := y })).wk.id, .int .i64 (({ g with count := y })).wk.at_, .int .i64 (({ g with count := y })).wk.coins, .int .i64 (({ g with count := y })).wk.seq, .int .i64 (({ g with count := y })).wk.last]) (by simp [results, Try.results79, go_sem, cg0, cg1, cg2, cg3, cg4, cg5, cg6, cr0, cr1, cr2, cr3, cr4, cr5, cr6, lg, lr, hGR, hRG]) rfl ?_
              exact ⟨{ g with count := y }, rfl, (HRV.out.chg (B := [G, R]) zq2 (by simp; omega) (Nat.le_refl _)).up (by omega), Chg.fin (B := [G, R]) ((HCV.out.mono (B' := [p, G, R]) (by simp)).trans zq2) (by simp; omega)⟩
            · have q1 : (v == 1) = false := beq_f h1
              by_cases h2 : v = 2
              · subst h2
                clear h0 h1 q0 q1
                obtain ⟨_, hbS, xs, rfl⟩ := HHZ.out.at (.head _)
                have cs0 : Z.cell? ⟨S, 0, none⟩ = some (.int .i64 xs.id) := (cell_blk hbS 0).trans rfl
                have cs1 : Z.cell? ⟨S, 1, none⟩ = some (.int .i64 xs.at_) := (cell_blk hbS 1).trans rfl
                have cs2 : Z.cell? ⟨S, 2, none⟩ = some (.int .i64 xs.coins) := (cell_blk hbS 2).trans rfl
                have cs3 : Z.cell? ⟨S, 3, none⟩ = some (.int .i64 xs.seq) := (cell_blk hbS 3).trans rfl
                have cs4 : Z.cell? ⟨S, 4, none⟩ = some (.int .i64 xs.last) := (cell_blk hbS 4).trans rfl
                have zcs0 := frozen_blk hbS 0
                have zcs1 := frozen_blk hbS 1
                have zcs2 := frozen_blk hbS 2
                have zcs3 := frozen_blk hbS 3
                have zcs4 := frozen_blk hbS 4
                have ls := lt_blk hbS
                have hSG : S ≠ G := by omega
                have hGS : G ≠ S := by omega
                clear hbS
                try go_wp2_with (first
                    | fail
                    | (
                      with_reducible refine wp_region_mix (by kernel_rfl) (by decide +kernel) ?_
                      repeat (first
                        | (refine mix_pure rfl ?_; (first | go_big_quiet_skip | (go_big_quiet_want; go_big_quiet_op; go_big_quiet_on)); refine wpQuiet_nil ?_)
                        | (refine mix_skip (by rfl) ?_; (try simp only [Act.put, List.setIfInBounds_toArray, List.set_cons_zero, List.set_cons_succ]))
                        | (refine mix_mk rfl (by rfl) (fun K hK => ?_); (first | (go_simp; first | skip)); (show K _ _); refine hK _ _ (show Ext _ _ from zq0) ?_; clear hK K; (try simp only [Act.put, List.setIfInBounds_toArray, List.set_cons_zero, List.set_cons_succ])))
                      refine mix_nil ?_)
                    | (
                      with_reducible refine wp_region_ext (by kernel_rfl) (by kernel_rfl) ?_
                      repeat (first | go_big_quiet_skip | (go_big_quiet_want; go_big_quiet_op; first | go_big_quiet_on | (apply Exists.intro; refine ⟨fun _ => ?_, ?_⟩; (fail); (try rw [h1]); (try rw [h2]); (try rw [h3]); (try rw [h4]); (try rw [p1]); (try rw [p2]); (try rw [p3]); (try rw [p4]); (try rw [r1]); (try rw [r2]); (try rw [r3]); (try rw [r4]); (try rw [r5]); (try rw [r6]); (try rw [q3]); (try rw [q4]); (try rw [hp]); (try rw [hq]); go_big_quiet_on)))
                      refine wpQuiet_nil ?_
                      rintro _ ⟨tq, rfl⟩))
                refine (l20BadWalker_u lo p (Q + 80) xs Z HRZ.out (by omega)).mono ?_
                rintro e V ⟨y, rfl, _, hRV, hCV⟩
                have bgV := (hCV.block G lg (by simpa using hGp)).trans HOZ.out
                obtain ⟨_, hbR, rfl⟩ := (HHZ.out.chg hCV (by simp; omega)).at (.tail _ (.tail _ (.head _)))
                have HRV := hid hRV
                have HCV := hid (HCZ.out.trans hCV)
                clear cg0 cg1 cg2 cg3 cg4 cg5 cg6 zcg0 zcg1 zcg2 zcg3 zcg4 zcg5 zcg6 cr0 cr1 cr2 cr3 cr4 cr5 cr6 zcr0 zcr1 zcr2 zcr3 zcr4 zcr5 zcr6 lg lr cs0 cs1 cs2 cs3 cs4 zcs0 zcs1 zcs2 zcs3 zcs4 ls hRV hCV HRZ HCZ HHZ HOZ
                have cg0 : V.cell? ⟨G, 0, none⟩ = some (.int .i64 g.src) := (cell_blk bgV 0).trans rfl
                have cg1 : V.cell? ⟨G, 1, none⟩ = some (.int .i64 g.count) := (cell_blk bgV 1).trans rfl
                have cg2 : V.cell? ⟨G, 2, none⟩ = some (.int .i64 g.wk.id) := (cell_blk bgV 2).trans rfl
                have cg3 : V.cell? ⟨G, 3, none⟩ = some (.int .i64 g.wk.at_) := (cell_blk bgV 3).trans rfl
                have cg4 : V.cell? ⟨G, 4, none⟩ = some (.int .i64 g.wk.coins) := (cell_blk bgV 4).trans rfl
                have cg5 : V.cell? ⟨G, 5, none⟩ = some (.int .i64 g.wk.seq) := (cell_blk bgV 5).trans rfl
                have cg6 : V.cell? ⟨G, 6, none⟩ = some (.int .i64 g.wk.last) := (cell_blk bgV 6).trans rfl
                have zcg0 := frozen_blk bgV 0
                have zcg1 := frozen_blk bgV 1
                have zcg2 := frozen_blk bgV 2
                have zcg3 := frozen_blk bgV 3
                have zcg4 := frozen_blk bgV 4
                have zcg5 := frozen_blk bgV 5
                have zcg6 := frozen_blk bgV 6
                have cr0 : V.cell? ⟨R, 0, none⟩ = some (.int .i64 0) := (cell_blk hbR 0).trans rfl
                have cr1 : V.cell? ⟨R, 1, none⟩ = some (.int .i64 0) := (cell_blk hbR 1).trans rfl
                have cr2 : V.cell? ⟨R, 2, none⟩ = some (.int .i64 0) := (cell_blk hbR 2).trans rfl
                have cr3 : V.cell? ⟨R, 3, none⟩ = some (.int .i64 0) := (cell_blk hbR 3).trans rfl
                have cr4 : V.cell? ⟨R, 4, none⟩ = some (.int .i64 0) := (cell_blk hbR 4).trans rfl
                have cr5 : V.cell? ⟨R, 5, none⟩ = some (.int .i64 0) := (cell_blk hbR 5).trans rfl
                have cr6 : V.cell? ⟨R, 6, none⟩ = some (.int .i64 0) := (cell_blk hbR 6).trans rfl
                have zcr0 := frozen_blk hbR 0
                have zcr1 := frozen_blk hbR 1
                have zcr2 := frozen_blk hbR 2
                have zcr3 := frozen_blk hbR 3
                have zcr4 := frozen_blk hbR 4
                have zcr5 := frozen_blk hbR 5
                have zcr6 := frozen_blk hbR 6
                have lg := lt_blk bgV
                have lr := lt_blk hbR
                clear bgV hbR
                try go_wp2_with (first
                    | fail
                    | (
                      with_reducible refine wp_region_mix (by kernel_rfl) (by decide +kernel) ?_
                      repeat (first
                        | (refine mix_pure rfl ?_; (first | go_big_quiet_skip | (go_big_quiet_want; go_big_quiet_op; go_big_quiet_on)); refine wpQuiet_nil ?_)
                        | (refine mix_skip (by rfl) ?_; (try simp only [Act.put, List.setIfInBounds_toArray, List.set_cons_zero, List.set_cons_succ]))
                        | (refine mix_mk rfl (by rfl) (fun K hK => ?_); (first | (go_simp; first | skip)); (show K _ _); refine hK _ _ (show Ext _ _ from zq0) ?_; clear hK K; (try simp only [Act.put, List.setIfInBounds_toArray, List.set_cons_zero, List.set_cons_succ])))
                      refine mix_nil ?_)
                    | (
                      with_reducible refine wp_region_ext (by kernel_rfl) (by kernel_rfl) ?_
                      repeat (first | go_big_quiet_skip | (go_big_quiet_want; go_big_quiet_op; first | go_big_quiet_on | (apply Exists.intro; refine ⟨fun _ => ?_, ?_⟩; (fail); (try rw [h1]); (try rw [h2]); (try rw [h3]); (try rw [h4]); (try rw [p1]); (try rw [p2]); (try rw [p3]); (try rw [p4]); (try rw [r1]); (try rw [r2]); (try rw [r3]); (try rw [r4]); (try rw [r5]); (try rw [r6]); (try rw [q3]); (try rw [q4]); (try rw [hp]); (try rw [hq]); go_big_quiet_on)))
                      refine wpQuiet_nil ?_
                      rintro _ ⟨tq, rfl⟩))
                refine bodyPost_ret (v := .agg #[.int .i64 (({ g with wk := y })).src, .int .i64 (({ g with wk := y })).count, .int .i64 (({ g with wk := y })).wk.id, .int .i64 (({ g with wk := y })).wk.at_, .int .i64 (({ g with wk := y })).wk.coins, .int .i64 (({ g with wk := y })).wk.seq, .int .i64 (({ g with wk := y })).wk.last]) (by simp [results, Try.results79, go_sem, cg0, cg1, cg2, cg3, cg4, cg5, cg6, cr0, cr1, cr2, cr3, cr4, cr5, cr6, lg, lr, hGR, hRG]) rfl ?_
                exact ⟨{ g with wk := y }, rfl, (HRV.out.chg (B := [G, R]) zq2 (by simp; omega) (Nat.le_refl _)).up (by omega), Chg.fin (B := [G, R]) ((HCV.out.mono (B' := [p, G, R]) (by simp)).trans zq2) (by simp; omega)⟩
              · have q2 : (v == 2) = false := beq_f h2
                clear h0 h1 h2
                try go_wp2_with (first
                    | fail
                    | (
                      with_reducible refine wp_region_mix (by kernel_rfl) (by decide +kernel) ?_
                      repeat (first
                        | (refine mix_pure rfl ?_; (first | go_big_quiet_skip | (go_big_quiet_want; go_big_quiet_op; go_big_quiet_on)); refine wpQuiet_nil ?_)
                        | (refine mix_skip (by rfl) ?_; (try simp only [Act.put, List.setIfInBounds_toArray, List.set_cons_zero, List.set_cons_succ]))
                        | (refine mix_mk rfl (by rfl) (fun K hK => ?_); (first | (go_simp; first | skip)); (show K _ _); refine hK _ _ (show Ext _ _ from zq0) ?_; clear hK K; (try simp only [Act.put, List.setIfInBounds_toArray, List.set_cons_zero, List.set_cons_succ])))
                      refine mix_nil ?_)
                    | (
                      with_reducible refine wp_region_ext (by kernel_rfl) (by kernel_rfl) ?_
                      repeat (first | go_big_quiet_skip | (go_big_quiet_want; go_big_quiet_op; first | go_big_quiet_on | (apply Exists.intro; refine ⟨fun _ => ?_, ?_⟩; (fail); (try rw [h1]); (try rw [h2]); (try rw [h3]); (try rw [h4]); (try rw [p1]); (try rw [p2]); (try rw [p3]); (try rw [p4]); (try rw [r1]); (try rw [r2]); (try rw [r3]); (try rw [r4]); (try rw [r5]); (try rw [r6]); (try rw [q3]); (try rw [q4]); (try rw [hp]); (try rw [hq]); go_big_quiet_on)))
                      refine wpQuiet_nil ?_
                      rintro _ ⟨tq, rfl⟩))
                refine bodyPost_ret (v := .agg #[.int .i64 g.src, .int .i64 g.count, .int .i64 g.wk.id, .int .i64 g.wk.at_, .int .i64 g.wk.coins, .int .i64 g.wk.seq, .int .i64 g.wk.last]) (by simp [results, Try.results79, go_sem, cg0, cg1, cg2, cg3, cg4, cg5, cg6, cr0, cr1, cr2, cr3, cr4, cr5, cr6, lg, lr, hGR, hRG]) rfl ?_
                exact ⟨g, rfl, (HRZ.out.chg (B := [R]) zq2 (by simp; omega) (Nat.le_refl _)).up (by omega), Chg.fin (B := [R]) ((HCZ.out.mono (B' := [p, R]) (by simp)).trans zq2) (by simp; omega)⟩
    · try go_wp2_with (first
          | fail
          | (
            with_reducible refine wp_region_mix (by kernel_rfl) (by decide +kernel) ?_
            repeat (first
              | (refine mix_pure rfl ?_; (first | go_big_quiet_skip | (go_big_quiet_want; go_big_quiet_op; go_big_quiet_on)); refine wpQuiet_nil ?_)
              | (refine mix_skip (by rfl) ?_; (try simp only [Act.put, List.setIfInBounds_toArray, List.set_cons_zero, List.set_cons_succ]))
              | (refine mix_mk rfl (by rfl) (fun K hK => ?_); (first | (go_simp; first | skip)); (show K _ _); refine hK _ _ (show Ext _ _ from zq0) ?_; clear hK K; (try simp only [Act.put, List.setIfInBounds_toArray, List.set_cons_zero, List.set_cons_succ])))
            refine mix_nil ?_)
          | (
            with_reducible refine wp_region_ext (by kernel_rfl) (by kernel_rfl) ?_
            repeat (first | go_big_quiet_skip | (go_big_quiet_want; go_big_quiet_op; first | go_big_quiet_on | (apply Exists.intro; refine ⟨fun _ => ?_, ?_⟩; (fail); (try rw [h1]); (try rw [h2]); (try rw [h3]); (try rw [h4]); (try rw [p1]); (try rw [p2]); (try rw [p3]); (try rw [p4]); (try rw [r1]); (try rw [r2]); (try rw [r3]); (try rw [r4]); (try rw [r5]); (try rw [r6]); (try rw [q3]); (try rw [q4]); (try rw [hp]); (try rw [hq]); go_big_quiet_on)))
            refine wpQuiet_nil ?_
            rintro _ ⟨tq, rfl⟩))
      refine wp_gen fun Y hY => ?_
      have EY : Ext Z Y := by rw [hY]; ((try simp only [ext_drew]); (try simp only [ext_ext]); repeat (first | exact Ext.refl _ | with_reducible apply Ext.add | with_reducible apply Ext.dr | apply Ext.alloc | apply Ext.ext | apply Ext.drew | refine Ext.trans ?_ (by assumption)))
      have HJ := hid (show Rdr lo p (Q + 60) Y ∧ Held [(S, IsWlk), (M, fun o => o = oMp m), (R, fun o => o = oGst ⟨0, 0, ⟨0, 0, 0, 0, 0⟩⟩)] Y from ⟨(HRZ.out.of EY).up (by omega), HHZ.out.of EY⟩)
      have HCY := hid (HCZ.out.trans (Chg.of_ext EY [p]))
      obtain ⟨_, hbS0, _⟩ := HJ.out.2.at (.head _)
      obtain ⟨_, hbM0, _⟩ := HJ.out.2.at (.tail _ (.head _))
      obtain ⟨_, hbR0, _⟩ := HJ.out.2.at (.tail _ (.tail _ (.head _)))
      have lS0 := lt_blk hbS0
      have lM0 := lt_blk hbM0
      have lR0 := lt_blk hbR0
      have hpW := HJ.out.1.lt
      clear hY EY HRZ HCZ HHZ hbS0 hbM0 hbR0
      refine wp_region_flowD [some 34, some 35, some 36, some 37, some 38, some 39, some 40, some 41, some 42, some 43, some 44, some 6, none] (fun a b => ChgT Y.heap.size [p] IsGst a b) (fun i a b => match i with | 12 => Turn Y.heap.size IsGst a b | _ => Chg [p] a b) (fun k9 w9 => Rdr lo p ((Q + 60) + 1 * k9) w9 ∧ Held [(S, IsWlk), (M, fun o => o = oMp m), (R, fun o => o = oGst ⟨0, 0, ⟨0, 0, 0, 0, 0⟩⟩)] w9) (fun i v9 w9 => match i with
        | 0 => v9 = .agg #[.int .i64 (m.c), .int .i64 (m.w)]
        | 1 => v9 = .pointer (some ⟨S, 1, none⟩)
        | 2 => ∃ x : Int, v9 = .int .i64 x
        | 3 => ∃ x : Int, v9 = .int .i64 x ∧ (-1 ≤ x ∧ x ≤ 3)
        | 4 => MkI Y.heap.size 5 (0) (7) (v9) w9
        | 5 => v9 = .pointer (some ⟨p, 0, none⟩)
        | 6 => InI 0 (4) (v9)
        | 7 => PtI Y.heap.size 5 (0) (7) (v9) w9
        | 8 => InI (0) (7) (v9)
        | 9 => InWu (v9)
        | 10 => InG (v9)
        | 11 => PtB Y.heap.size IsGst (v9) w9
        | _ => True) (by kernel_rfl) (by decide +kernel) (by simp) (fun a => ChgT.refl _ _ _ a) (fun a b c h k => ChgT.trans h k) ?_ (ChgT.of (Chg.drew (Chg.refl [] _)) (by simp)) ?_ ?_ ?_ ?_
      · intro i a b hi hG
        have hi9 : i < 13 := hi
        clear hi
        match i, hi9, hG with
        | 0, _, hG => exact ChgT.of hG (by simp; omega)
        | 1, _, hG => exact ChgT.of hG (by simp; omega)
        | 2, _, hG => exact ChgT.of hG (by simp; omega)
        | 3, _, hG => exact ChgT.of hG (by simp; omega)
        | 4, _, hG => exact ChgT.of hG (by simp; omega)
        | 5, _, hG => exact ChgT.of hG (by simp; omega)
        | 6, _, hG => exact ChgT.of hG (by simp; omega)
        | 7, _, hG => exact ChgT.of hG (by simp; omega)
        | 8, _, hG => exact ChgT.of hG (by simp; omega)
        | 9, _, hG => exact ChgT.of hG (by simp; omega)
        | 10, _, hG => exact ChgT.of hG (by simp; omega)
        | 11, _, hG => exact ChgT.of hG (by simp; omega)
        | 12, _, hG => exact Turn.chgT hG
        | n + 13, h9, _ => exact absurd h9 (by omega)
      · exact ⟨HJ.out.1.of zq0, HJ.out.2.drw⟩
      · intro i j hi hj hij v9 w9 w8 hg hS hG
        have hi9 : i < 13 := hi
        have hj9 : j < 13 := hj
        have hG0 := hG
        have hG2 : ChgT Y.heap.size [p] IsGst w9 w8 := by
          clear hG0 hij hi hj hS
          match i, hi9, hG with
          | 0, _, hG => exact ChgT.of hG (by simp; omega)
          | 1, _, hG => exact ChgT.of hG (by simp; omega)
          | 2, _, hG => exact ChgT.of hG (by simp; omega)
          | 3, _, hG => exact ChgT.of hG (by simp; omega)
          | 4, _, hG => exact ChgT.of hG (by simp; omega)
          | 5, _, hG => exact ChgT.of hG (by simp; omega)
          | 6, _, hG => exact ChgT.of hG (by simp; omega)
          | 7, _, hG => exact ChgT.of hG (by simp; omega)
          | 8, _, hG => exact ChgT.of hG (by simp; omega)
          | 9, _, hG => exact ChgT.of hG (by simp; omega)
          | 10, _, hG => exact ChgT.of hG (by simp; omega)
          | 11, _, hG => exact ChgT.of hG (by simp; omega)
          | 12, _, hG => exact Turn.chgT hG
          | n + 13, h9, _ => exact absurd h9 (by omega)
        clear hi hj hG
        match j, hj9 with
        | 0, _ => exact hS
        | 1, _ => exact hS
        | 2, _ => exact hS
        | 3, _ => exact hS
        | 4, _ => exact MkI.chgT hS hG2 noInt_Gst
        | 5, _ => exact hS
        | 6, _ => exact hS
        | 7, _ => exact PtI.chgT hS hG2 noInt_Gst
        | 8, _ => exact hS
        | 9, _ => exact hS
        | 10, _ => exact hS
        | 11, _ => exact PtB.chgT hS hG2
        | 12, _ => exact hS
        | n + 13, h9 => exact absurd h9 (by omega)
      · intro i oo ho σ k9 w9 hG hk9 hJ hd
        have HG := hid hG
        have HJ9 := hid hJ
        have hW9 := hG.size
        have hkN : k9 < 13 := hk9
        have hi9 : i < 13 := (List.getElem?_eq_some_iff.1 ho).1
        clear hG hJ hk9
        match i, hi9, ho with
        | 0, _, ho =>
          obtain ⟨_, hbm, rfl⟩ := HJ9.out.2.at (.tail _ (.head _))
          have cM0 := (cell_blk hbm 0).trans (show _ = some (Value.int .i64 m.c) from rfl)
          have cM1 := (cell_blk hbm 1).trans (show _ = some (Value.int .i64 m.w) from rfl)
          have zM0 := frozen_blk hbm 0
          have zM1 := frozen_blk hbm 1
          have lM9 := lt_blk hbm
          clear hbm
          obtain rfl := Option.some.inj ho
          clear hd ho
          simp only [actO, putO, List.setIfInBounds_toArray, List.set_cons_zero, List.set_cons_succ, Nat.reduceAdd]
          refine flow_K (fun K hK => ?_)
          go_simp
          (show K _ _)
          refine hK _ _ ⟨_, rfl, by simp, Chg.of_ext (show Ext _ _ from zq0) _, ⟨(HJ9.out.1.of (show Ext _ _ from zq0)).up (by omega), HJ9.out.2.of (show Ext _ _ from zq0)⟩, rfl⟩
        | 1, _, ho =>
          obtain rfl := Option.some.inj ho
          clear hd ho
          simp only [actO, putO, List.setIfInBounds_toArray, List.set_cons_zero, List.set_cons_succ, Nat.reduceAdd]
          refine flow_K (fun K hK => ?_)
          go_simp
          (show K _ _)
          refine hK _ _ ⟨_, rfl, by simp, Chg.of_ext (show Ext _ _ from zq0) _, ⟨(HJ9.out.1.of (show Ext _ _ from zq0)).up (by omega), HJ9.out.2.of (show Ext _ _ from zq0)⟩, rfl⟩
        | 2, _, ho =>
          have e1 : σ 1 = .pointer (some ⟨S, 1, none⟩) := hd 1 (by obtain rfl := Option.some.inj ho; kernel_rfl)
          obtain ⟨_, hb, x0, rfl⟩ := HJ9.out.2.at (.head _)
          have cU := (cell_blk hb 1).trans rfl
          have zU := frozen_blk hb 1
          have lU := lt_blk hb
          obtain rfl := Option.some.inj ho
          clear hd ho
          simp only [actO, putO, List.setIfInBounds_toArray, List.set_cons_zero, List.set_cons_succ, Nat.reduceAdd, e1]
          refine flow_K (fun K hK => ?_)
          go_simp
          (show K _ _)
          refine hK _ _ ⟨_, rfl, by simp, Chg.of_ext (show Ext _ _ from zq0) _, ⟨(HJ9.out.1.of (show Ext _ _ from zq0)).up (by omega), HJ9.out.2.of (show Ext _ _ from zq0)⟩, ⟨_, rfl⟩⟩
        | 3, _, ho =>
          have e0 : σ 0 = .agg #[.int .i64 (m.c), .int .i64 (m.w)] := hd 0 (by obtain rfl := Option.some.inj ho; kernel_rfl)
          obtain ⟨x2, e2⟩ : ∃ x : Int, σ 2 = .int .i64 x := hd 2 (by obtain rfl := Option.some.inj ho; kernel_rfl)
          obtain rfl := Option.some.inj ho
          clear hd ho
          simp only [actO, putO, List.setIfInBounds_toArray, List.set_cons_zero, List.set_cons_succ, Nat.reduceAdd, e0, e2]
          refine flow_K (fun K hK => ?_)
          have HRd := hid HJ9.out.1
          go_simp
          refine (sPlcCell_c m x2 w9).mono ?_
          rintro e w8 ⟨rfl, hE8⟩; have hC8 : Chg [p] w9 w8 := Chg.of_ext hE8 _; have hR8 := HJ9.out.1.of hE8
          (show K _ _)
          refine hK _ _ ⟨_, rfl, by simp, hC8, ⟨hR8.up (by omega), HJ9.out.2.chg hC8 (by simp; omega)⟩, ⟨_, rfl, plcCell_lo m _⟩⟩
        | 4, _, ho =>
          obtain rfl := Option.some.inj ho
          clear hd ho
          simp only [actO, putO, List.setIfInBounds_toArray, List.set_cons_zero, List.set_cons_succ, Nat.reduceAdd]
          refine flow_K (fun K hK => ?_)
          go_simp
          (show K _ _)
          refine hK _ _ ⟨_, rfl, by simp, Chg.of_ext (show Ext _ _ from zq0) _, ⟨(HJ9.out.1.of (show Ext _ _ from zq0)).up (by omega), HJ9.out.2.of (show Ext _ _ from zq0)⟩, ⟨_, rfl, by (try simp [go_sem]) <;> omega, ⟨_, heap_new (by simp [go_sem]), fun i hi => ?_⟩⟩⟩
          match i, hi with
          | 0, _ => exact ⟨0, rfl, by omega, by omega⟩
          | 1, _ => exact ⟨1, rfl, by omega, by omega⟩
          | 2, _ => exact ⟨2, rfl, by omega, by omega⟩
          | 3, _ => exact ⟨3, rfl, by omega, by omega⟩
          | 4, _ => exact ⟨7, rfl, by omega, by omega⟩
        | 5, _, ho =>
          obtain rfl := Option.some.inj ho
          clear hd ho
          simp only [actO, putO, List.setIfInBounds_toArray, List.set_cons_zero, List.set_cons_succ, Nat.reduceAdd]
          refine flow_K (fun K hK => ?_)
          go_simp
          (show K _ _)
          refine hK _ _ ⟨_, rfl, by simp, Chg.of_ext (show Ext _ _ from zq0) _, ⟨(HJ9.out.1.of (show Ext _ _ from zq0)).up (by omega), HJ9.out.2.of (show Ext _ _ from zq0)⟩, rfl⟩
        | 6, _, ho =>
          have e5 : σ 5 = .pointer (some ⟨p, 0, none⟩) := hd 5 (by obtain rfl := Option.some.inj ho; kernel_rfl)
          obtain rfl := Option.some.inj ho
          clear hd ho
          simp only [actO, putO, List.setIfInBounds_toArray, List.set_cons_zero, List.set_cons_succ, Nat.reduceAdd, e5]
          refine flow_K (fun K hK => ?_)
          have HRd := hid HJ9.out.1
          go_simp
          refine (pick_c lo p _ (5) w9 HRd.out (by omega) (by omega) (by omega)).mono ?_
          rintro e w8 ⟨vv, rfl, hv0, hv1, hR8, hC8⟩
          (show K _ _)
          refine hK _ _ ⟨_, rfl, by simp, hC8, ⟨hR8.up (by omega), HJ9.out.2.chg hC8 (by simp; omega)⟩, ⟨vv, rfl, hv0, by omega⟩⟩
        | 7, _, ho =>
          obtain ⟨b4, e4, hb4, ha4⟩ : MkI Y.heap.size 5 (0) (7) (σ 4) _ := hd 4 (by obtain rfl := Option.some.inj ho; kernel_rfl)
          obtain ⟨x6, e6, y6, z6⟩ : InI 0 (4) (σ 6) := hd 6 (by obtain rfl := Option.some.inj ho; kernel_rfl)
          obtain ⟨i6, rfl⟩ : ∃ i : Nat, x6 = (i : Int) := ⟨x6.toNat, by omega⟩
          have hin : i6 < 5 := by omega
          have hin2 : (i6 : Int) < 5 := by omega
          obtain rfl := Option.some.inj ho
          clear hd ho
          simp only [actO, putO, List.setIfInBounds_toArray, List.set_cons_zero, List.set_cons_succ, Nat.reduceAdd, e4, e6]
          refine flow_K (fun K hK => ?_)
          go_simp
          (show K _ _)
          refine hK _ _ ⟨_, rfl, by simp, Chg.of_ext (show Ext _ _ from zq0) _, ⟨(HJ9.out.1.of (show Ext _ _ from zq0)).up (by omega), HJ9.out.2.of (show Ext _ _ from zq0)⟩, ⟨_, _, rfl, hin, hb4, ha4⟩⟩
        | 8, _, ho =>
          obtain ⟨b7, k7, e7, hk7, hb7, ha7⟩ : PtI Y.heap.size 5 (0) (7) (σ 7) _ := hd 7 (by obtain rfl := Option.some.inj ho; kernel_rfl)
          obtain ⟨y, hy, hy0, hy1⟩ := index_at ha7 hk7
          obtain rfl := Option.some.inj ho
          clear hd ho
          simp only [actO, putO, List.setIfInBounds_toArray, List.set_cons_zero, List.set_cons_succ, Nat.reduceAdd, e7]
          refine flow_K (fun K hK => ?_)
          go_simp
          (show K _ _)
          refine hK _ _ ⟨_, rfl, by simp, Chg.of_ext (show Ext _ _ from zq0) _, ⟨(HJ9.out.1.of (show Ext _ _ from zq0)).up (by omega), HJ9.out.2.of (show Ext _ _ from zq0)⟩, ⟨y, rfl, hy0, hy1⟩⟩
        | 9, _, ho =>
          obtain ⟨_, hb, x0, rfl⟩ := HJ9.out.2.at (.head _)
          have cU0 := (cell_blk hb 0).trans (show _ = some (Value.int .i64 x0.id) from rfl)
          have zU0 := frozen_blk hb 0
          have cU1 := (cell_blk hb 1).trans (show _ = some (Value.int .i64 x0.at_) from rfl)
          have zU1 := frozen_blk hb 1
          have cU2 := (cell_blk hb 2).trans (show _ = some (Value.int .i64 x0.coins) from rfl)
          have zU2 := frozen_blk hb 2
          have cU3 := (cell_blk hb 3).trans (show _ = some (Value.int .i64 x0.seq) from rfl)
          have zU3 := frozen_blk hb 3
          have cU4 := (cell_blk hb 4).trans (show _ = some (Value.int .i64 x0.last) from rfl)
          have zU4 := frozen_blk hb 4
          have lU := lt_blk hb
          clear hb
          obtain rfl := Option.some.inj ho
          clear hd ho
          simp only [actO, putO, List.setIfInBounds_toArray, List.set_cons_zero, List.set_cons_succ, Nat.reduceAdd]
          refine flow_K (fun K hK => ?_)
          go_simp
          (show K _ _)
          refine hK _ _ ⟨_, rfl, by simp, Chg.of_ext (show Ext _ _ from zq0) _, ⟨(HJ9.out.1.of (show Ext _ _ from zq0)).up (by omega), HJ9.out.2.of (show Ext _ _ from zq0)⟩, ⟨x0, rfl, trivial⟩⟩
        | 10, _, ho =>
          obtain ⟨x3, e3, h3⟩ : ∃ x : Int, σ 3 = .int .i64 x ∧ (-1 ≤ x ∧ x ≤ 3) := hd 3 (by obtain rfl := Option.some.inj ho; kernel_rfl)
          obtain ⟨x8, e8, y8, z8⟩ : InI (0) (7) (σ 8) := hd 8 (by obtain rfl := Option.some.inj ho; kernel_rfl)
          obtain ⟨x9, e9, h9⟩ : InWu (σ 9) := hd 9 (by obtain rfl := Option.some.inj ho; kernel_rfl)
          obtain rfl := Option.some.inj ho
          clear hd ho
          simp only [actO, putO, List.setIfInBounds_toArray, List.set_cons_zero, List.set_cons_succ, Nat.reduceAdd, e3, e8, e9]
          refine flow_K (fun K hK => ?_)
          go_simp
          (show K _ _)
          refine hK _ _ ⟨_, rfl, by simp, Chg.of_ext (show Ext _ _ from zq0) _, ⟨(HJ9.out.1.of (show Ext _ _ from zq0)).up (by omega), HJ9.out.2.of (show Ext _ _ from zq0)⟩, ⟨⟨x3, x8, x9⟩, rfl, trivial⟩⟩
        | 11, _, ho =>
          obtain rfl := Option.some.inj ho
          clear hd ho
          simp only [actO, putO, List.setIfInBounds_toArray, List.set_cons_zero, List.set_cons_succ, Nat.reduceAdd]
          refine flow_K (fun K hK => ?_)
          go_simp
          (show K _ _)
          refine hK _ _ ⟨_, rfl, by simp, Chg.of_ext (show Ext _ _ from zq0) _, ⟨(HJ9.out.1.of (show Ext _ _ from zq0)).up (by omega), HJ9.out.2.of (show Ext _ _ from zq0)⟩, ⟨_, rfl, by (try simp [go_sem]) <;> omega, _, heap_new (by simp [go_sem]), ⟨⟨0, 0, ⟨0, 0, 0, 0, 0⟩⟩, rfl⟩⟩⟩
        | 12, _, ho =>
          obtain ⟨b11, e11, hb11, _, ho11, x11, rfl⟩ : PtB Y.heap.size IsGst (σ 11) _ := hd 11 (by obtain rfl := Option.some.inj ho; kernel_rfl)
          obtain ⟨x10, e10, h10⟩ : InG (σ 10) := hd 10 (by obtain rfl := Option.some.inj ho; kernel_rfl)
          have cR0 := (cell_blk ho11 0).trans rfl
          have zR0 := frozen_blk ho11 0
          have cR1 := (cell_blk ho11 1).trans rfl
          have zR1 := frozen_blk ho11 1
          have cR2 := (cell_blk ho11 2).trans rfl
          have zR2 := frozen_blk ho11 2
          have cR3 := (cell_blk ho11 3).trans rfl
          have zR3 := frozen_blk ho11 3
          have cR4 := (cell_blk ho11 4).trans rfl
          have zR4 := frozen_blk ho11 4
          have cR5 := (cell_blk ho11 5).trans rfl
          have zR5 := frozen_blk ho11 5
          have cR6 := (cell_blk ho11 6).trans rfl
          have zR6 := frozen_blk ho11 6
          have lR9 := lt_blk ho11
          have HB0 := hid ho11
          clear ho11
          obtain rfl := Option.some.inj ho
          clear hd ho
          simp only [actO, putO, List.setIfInBounds_toArray, List.set_cons_zero, List.set_cons_succ, Nat.reduceAdd, e11, e10]
          refine flow_K (fun K hK => ?_)
          go_simp
          (show K _ _)
          refine hK _ _ ⟨undef, rfl, fun _ => rfl, ⟨b11, _, oGst x10, hb11, HB0.out, gst_store (x := x10) HB0.out, ⟨_, rfl⟩, ⟨_, rfl⟩, zq1⟩, ⟨(HJ9.out.1.chg (B := [b11]) zq1 (by simp; omega) (Nat.le_refl _)).up (by omega), HJ9.out.2.chg (B := [b11]) zq1 (by simp; omega)⟩, trivial⟩
      · intro σ w9 hG hJ hd
        have e0 : σ 0 = .agg #[.int .i64 (m.c), .int .i64 (m.w)] := hd 0 (by decide)
        have e1 : σ 1 = .pointer (some ⟨S, 1, none⟩) := hd 1 (by decide)
        obtain ⟨x2, e2⟩ : ∃ x : Int, σ 2 = .int .i64 x := hd 2 (by decide)
        obtain ⟨x3, e3, h3⟩ : ∃ x : Int, σ 3 = .int .i64 x ∧ (-1 ≤ x ∧ x ≤ 3) := hd 3 (by decide)
        obtain ⟨b4, e4, hb4, ha4⟩ : MkI Y.heap.size 5 (0) (7) (σ 4) _ := hd 4 (by decide)
        have e5 : σ 5 = .pointer (some ⟨p, 0, none⟩) := hd 5 (by decide)
        obtain ⟨x6, e6, y6, z6⟩ : InI 0 (4) (σ 6) := hd 6 (by decide)
        obtain ⟨b7, k7, e7, hk7, hb7, ha7⟩ : PtI Y.heap.size 5 (0) (7) (σ 7) _ := hd 7 (by decide)
        obtain ⟨x8, e8, y8, z8⟩ : InI (0) (7) (σ 8) := hd 8 (by decide)
        obtain ⟨x9, e9, h9⟩ : InWu (σ 9) := hd 9 (by decide)
        obtain ⟨x10, e10, h10⟩ : InG (σ 10) := hd 10 (by decide)
        obtain ⟨b11, e11, hb11, _, ho11, x11, rfl⟩ : PtB Y.heap.size IsGst (σ 11) _ := hd 11 (by decide)
        have HG := hid hG
        have HJ9 := hid (show Rdr lo p ((Q + 60) + 1 * 13) w9 ∧ Held [(S, IsWlk), (M, fun o => o = oMp m), (R, fun o => o = oGst ⟨0, 0, ⟨0, 0, 0, 0, 0⟩⟩)] w9 from hJ)
        clear hd hG hJ
        simp only [actO, putO, List.setIfInBounds_toArray, List.set_cons_zero, List.set_cons_succ, Nat.reduceAdd, e0, e1, e2, e3, e4, e5, e6, e7, e8, e9, e10, e11]
        clear e0 e1 e2 e3 e4 e5 e6 e7 e8 e9 e10 e11
        have HRW := hid HJ9.out.1
        have HHW := hid HJ9.out.2
        have HCW := hid (HCY.out.trans (HG.out.chg rfl))
        obtain ⟨G, hGe⟩ : ∃ G, b11 = G := ⟨_, rfl⟩
        rw [hGe] at hb11 ho11 ⊢
        have HOW := hid ho11
        have hGp : G ≠ p := by omega
        have hGR : G ≠ R := by omega
        have hRG : R ≠ G := by omega
        have hwG : w.heap.size ≤ G := by have := HCY.out.size; omega
        obtain ⟨g, hge⟩ : ∃ g, x11 = g := ⟨_, rfl⟩
        rw [hge] at HOW
        clear HG HJ9 HJ HCY ho11 hGe hge
        try go_wp2_with (first
            | fail
            | (
              with_reducible refine wp_region_mix (by kernel_rfl) (by decide +kernel) ?_
              repeat (first
                | (refine mix_pure rfl ?_; (first | go_big_quiet_skip | (go_big_quiet_want; go_big_quiet_op; go_big_quiet_on)); refine wpQuiet_nil ?_)
                | (refine mix_skip (by rfl) ?_; (try simp only [Act.put, List.setIfInBounds_toArray, List.set_cons_zero, List.set_cons_succ]))
                | (refine mix_mk rfl (by rfl) (fun K hK => ?_); (first | (go_simp; first | skip)); (show K _ _); refine hK _ _ (show Ext _ _ from zq0) ?_; clear hK K; (try simp only [Act.put, List.setIfInBounds_toArray, List.set_cons_zero, List.set_cons_succ])))
              refine mix_nil ?_)
            | (
              with_reducible refine wp_region_ext (by kernel_rfl) (by kernel_rfl) ?_
              repeat (first | go_big_quiet_skip | (go_big_quiet_want; go_big_quiet_op; first | go_big_quiet_on | (apply Exists.intro; refine ⟨fun _ => ?_, ?_⟩; (fail); (try rw [h1]); (try rw [h2]); (try rw [h3]); (try rw [h4]); (try rw [p1]); (try rw [p2]); (try rw [p3]); (try rw [p4]); (try rw [r1]); (try rw [r2]); (try rw [r3]); (try rw [r4]); (try rw [r5]); (try rw [r6]); (try rw [q3]); (try rw [q4]); (try rw [hp]); (try rw [hq]); go_big_quiet_on)))
              refine wpQuiet_nil ?_
              rintro _ ⟨tq, rfl⟩))
        refine calls_gen fun X hX => ?_
        have EX : Ext w9 X := by rw [hX]; ((try simp only [ext_drew]); (try simp only [ext_ext]); repeat (first | exact Ext.refl _ | with_reducible apply Ext.add | with_reducible apply Ext.dr | apply Ext.alloc | apply Ext.ext | apply Ext.drew | refine Ext.trans ?_ (by assumption)))
        have bg := (EX.block (lt_blk HOW.out)).trans HOW.out
        have HHX := hid (HHW.out.of EX)
        have HRX := hid (HRW.out.of EX)
        have HCX := hid (HCW.out.trans (Chg.of_ext EX [p]))
        clear hX EX HRW HHW HCW HOW
        refine (pick_c lo p _ 20 X HRX.out (by omega) (by omega) (by omega)).mono ?_
        rintro e Z ⟨v, rfl, hv0, hv1, hRZ, hCZ⟩
        have HOZ := hid ((hCZ.block G (lt_blk bg) (by simpa using hGp)).trans bg)
        have HHZ := hid (HHX.out.chg hCZ (by simp; omega))
        have HRZ := hid (hRZ.up (show _ ≤ Q + 80 by omega))
        have HCZ := hid (HCX.out.trans hCZ)
        obtain ⟨_, hbR, rfl⟩ := HHZ.out.at (.tail _ (.tail _ (.head _)))
        have bgZ := HOZ.out
        have cg0 : Z.cell? ⟨G, 0, none⟩ = some (.int .i64 g.src) := (cell_blk bgZ 0).trans rfl
        have cg1 : Z.cell? ⟨G, 1, none⟩ = some (.int .i64 g.count) := (cell_blk bgZ 1).trans rfl
        have cg2 : Z.cell? ⟨G, 2, none⟩ = some (.int .i64 g.wk.id) := (cell_blk bgZ 2).trans rfl
        have cg3 : Z.cell? ⟨G, 3, none⟩ = some (.int .i64 g.wk.at_) := (cell_blk bgZ 3).trans rfl
        have cg4 : Z.cell? ⟨G, 4, none⟩ = some (.int .i64 g.wk.coins) := (cell_blk bgZ 4).trans rfl
        have cg5 : Z.cell? ⟨G, 5, none⟩ = some (.int .i64 g.wk.seq) := (cell_blk bgZ 5).trans rfl
        have cg6 : Z.cell? ⟨G, 6, none⟩ = some (.int .i64 g.wk.last) := (cell_blk bgZ 6).trans rfl
        have zcg0 := frozen_blk bgZ 0
        have zcg1 := frozen_blk bgZ 1
        have zcg2 := frozen_blk bgZ 2
        have zcg3 := frozen_blk bgZ 3
        have zcg4 := frozen_blk bgZ 4
        have zcg5 := frozen_blk bgZ 5
        have zcg6 := frozen_blk bgZ 6
        have cr0 : Z.cell? ⟨R, 0, none⟩ = some (.int .i64 0) := (cell_blk hbR 0).trans rfl
        have cr1 : Z.cell? ⟨R, 1, none⟩ = some (.int .i64 0) := (cell_blk hbR 1).trans rfl
        have cr2 : Z.cell? ⟨R, 2, none⟩ = some (.int .i64 0) := (cell_blk hbR 2).trans rfl
        have cr3 : Z.cell? ⟨R, 3, none⟩ = some (.int .i64 0) := (cell_blk hbR 3).trans rfl
        have cr4 : Z.cell? ⟨R, 4, none⟩ = some (.int .i64 0) := (cell_blk hbR 4).trans rfl
        have cr5 : Z.cell? ⟨R, 5, none⟩ = some (.int .i64 0) := (cell_blk hbR 5).trans rfl
        have cr6 : Z.cell? ⟨R, 6, none⟩ = some (.int .i64 0) := (cell_blk hbR 6).trans rfl
        have zcr0 := frozen_blk hbR 0
        have zcr1 := frozen_blk hbR 1
        have zcr2 := frozen_blk hbR 2
        have zcr3 := frozen_blk hbR 3
        have zcr4 := frozen_blk hbR 4
        have zcr5 := frozen_blk hbR 5
        have zcr6 := frozen_blk hbR 6
        have lg := lt_blk bgZ
        have lr := lt_blk hbR
        clear bg hRZ hCZ HRX HHX HCX bgZ hbR
        by_cases h0 : v = 0
        · subst h0
          clear cg0 cg1 cg2 cg3 cg4 cg5 cg6 zcg0 zcg1 zcg2 zcg3 zcg4 zcg5 zcg6 cr0 cr1 cr2 cr3 cr4 cr5 cr6 zcr0 zcr1 zcr2 zcr3 zcr4 zcr5 zcr6 lg lr
          try go_wp2_with (first
              | fail
              | (
                with_reducible refine wp_region_mix (by kernel_rfl) (by decide +kernel) ?_
                repeat (first
                  | (refine mix_pure rfl ?_; (first | go_big_quiet_skip | (go_big_quiet_want; go_big_quiet_op; go_big_quiet_on)); refine wpQuiet_nil ?_)
                  | (refine mix_skip (by rfl) ?_; (try simp only [Act.put, List.setIfInBounds_toArray, List.set_cons_zero, List.set_cons_succ]))
                  | (refine mix_mk rfl (by rfl) (fun K hK => ?_); (first | (go_simp; first | skip)); (show K _ _); refine hK _ _ (show Ext _ _ from zq0) ?_; clear hK K; (try simp only [Act.put, List.setIfInBounds_toArray, List.set_cons_zero, List.set_cons_succ])))
                refine mix_nil ?_)
              | (
                with_reducible refine wp_region_ext (by kernel_rfl) (by kernel_rfl) ?_
                repeat (first | go_big_quiet_skip | (go_big_quiet_want; go_big_quiet_op; first | go_big_quiet_on | (apply Exists.intro; refine ⟨fun _ => ?_, ?_⟩; (fail); (try rw [h1]); (try rw [h2]); (try rw [h3]); (try rw [h4]); (try rw [p1]); (try rw [p2]); (try rw [p3]); (try rw [p4]); (try rw [r1]); (try rw [r2]); (try rw [r3]); (try rw [r4]); (try rw [r5]); (try rw [r6]); (try rw [q3]); (try rw [q4]); (try rw [hp]); (try rw [hq]); go_big_quiet_on)))
                refine wpQuiet_nil ?_
                rintro _ ⟨tq, rfl⟩))
          refine calls_gen fun X hX => ?_
          obtain ⟨A, hA⟩ : ∃ A, Z.heap.size = A := ⟨_, rfl⟩
          have EX : Ext Z X := by rw [hX]; ((try simp only [ext_drew]); (try simp only [ext_ext]); repeat (first | exact Ext.refl _ | with_reducible apply Ext.add | with_reducible apply Ext.dr | apply Ext.alloc | apply Ext.ext | apply Ext.drew | refine Ext.trans ?_ (by assumption)))
          have ba : X.heap[A]? = some (.cells #[.int .i64 (-1), .int .i64 4, .int .i64 0, .int .i64 1] 3 (0, 0)) := by rw [hX, ← hA]; exact zq3
          have HHX := hid (HHZ.out.of EX)
          have bg := (EX.block (lt_blk HOZ.out)).trans HOZ.out
          have HRX := hid (HRZ.out.of EX)
          have HCX := hid (HCZ.out.trans (Chg.of_ext EX [p]))
          have lpZ := HRZ.out.lt
          rw [hA]
          have hAp : A ≠ p := by omega
          clear hX EX hA HRZ HCZ HHZ HOZ
          refine (pick_c lo p _ 4 X HRX.out (by omega) (by omega) (by omega)).mono ?_
          rintro e V ⟨v, rfl, hv0', hv1', hRV, hCV⟩
          obtain ⟨i, rfl⟩ : ∃ i : Nat, v = (i : Int) := ⟨v.toNat, by omega⟩
          have baV := (hCV.block A (lt_blk ba) (by simpa using hAp)).trans ba
          have bgV := (hCV.block G (lt_blk bg) (by simpa using hGp)).trans bg
          obtain ⟨_, hbR, rfl⟩ := (HHX.out.chg hCV (by simp; omega)).at (.tail _ (.tail _ (.head _)))
          obtain ⟨y, hyx, hyc⟩ := arr_at (xs := [-1, 4, 0, 1]) (i := i) baV (by simp; omega)
          have HRV := hid hRV
          have HCV := hid (HCX.out.trans hCV)
          have la := lt_blk baV
          have za := frozen_blk baV i
          have hin : (i : Int) < 4 := by omega
          have cg0 : V.cell? ⟨G, 0, none⟩ = some (.int .i64 g.src) := (cell_blk bgV 0).trans rfl
          have cg1 : V.cell? ⟨G, 1, none⟩ = some (.int .i64 g.count) := (cell_blk bgV 1).trans rfl
          have cg2 : V.cell? ⟨G, 2, none⟩ = some (.int .i64 g.wk.id) := (cell_blk bgV 2).trans rfl
          have cg3 : V.cell? ⟨G, 3, none⟩ = some (.int .i64 g.wk.at_) := (cell_blk bgV 3).trans rfl
          have cg4 : V.cell? ⟨G, 4, none⟩ = some (.int .i64 g.wk.coins) := (cell_blk bgV 4).trans rfl
          have cg5 : V.cell? ⟨G, 5, none⟩ = some (.int .i64 g.wk.seq) := (cell_blk bgV 5).trans rfl
          have cg6 : V.cell? ⟨G, 6, none⟩ = some (.int .i64 g.wk.last) := (cell_blk bgV 6).trans rfl
          have zcg0 := frozen_blk bgV 0
          have zcg1 := frozen_blk bgV 1
          have zcg2 := frozen_blk bgV 2
          have zcg3 := frozen_blk bgV 3
          have zcg4 := frozen_blk bgV 4
          have zcg5 := frozen_blk bgV 5
          have zcg6 := frozen_blk bgV 6
          have cr0 : V.cell? ⟨R, 0, none⟩ = some (.int .i64 0) := (cell_blk hbR 0).trans rfl
          have cr1 : V.cell? ⟨R, 1, none⟩ = some (.int .i64 0) := (cell_blk hbR 1).trans rfl
          have cr2 : V.cell? ⟨R, 2, none⟩ = some (.int .i64 0) := (cell_blk hbR 2).trans rfl
          have cr3 : V.cell? ⟨R, 3, none⟩ = some (.int .i64 0) := (cell_blk hbR 3).trans rfl
          have cr4 : V.cell? ⟨R, 4, none⟩ = some (.int .i64 0) := (cell_blk hbR 4).trans rfl
          have cr5 : V.cell? ⟨R, 5, none⟩ = some (.int .i64 0) := (cell_blk hbR 5).trans rfl
          have cr6 : V.cell? ⟨R, 6, none⟩ = some (.int .i64 0) := (cell_blk hbR 6).trans rfl
          have zcr0 := frozen_blk hbR 0
          have zcr1 := frozen_blk hbR 1
          have zcr2 := frozen_blk hbR 2
          have zcr3 := frozen_blk hbR 3
          have zcr4 := frozen_blk hbR 4
          have zcr5 := frozen_blk hbR 5
          have zcr6 := frozen_blk hbR 6
          have lg := lt_blk bgV
          have lr := lt_blk hbR
          clear ba bg baV bgV hbR hRV hCV HRX HCX HHX hyx
          try go_wp2_with (first
              | fail
              | (
                with_reducible refine wp_region_mix (by kernel_rfl) (by decide +kernel) ?_
                repeat (first
                  | (refine mix_pure rfl ?_; (first | go_big_quiet_skip | (go_big_quiet_want; go_big_quiet_op; go_big_quiet_on)); refine wpQuiet_nil ?_)
                  | (refine mix_skip (by rfl) ?_; (try simp only [Act.put, List.setIfInBounds_toArray, List.set_cons_zero, List.set_cons_succ]))
                  | (refine mix_mk rfl (by rfl) (fun K hK => ?_); (first | (go_simp; first | skip)); (show K _ _); refine hK _ _ (show Ext _ _ from zq0) ?_; clear hK K; (try simp only [Act.put, List.setIfInBounds_toArray, List.set_cons_zero, List.set_cons_succ])))
                refine mix_nil ?_)
              | (
                with_reducible refine wp_region_ext (by kernel_rfl) (by kernel_rfl) ?_
                repeat (first | go_big_quiet_skip | (go_big_quiet_want; go_big_quiet_op; first | go_big_quiet_on | (apply Exists.intro; refine ⟨fun _ => ?_, ?_⟩; (fail); (try rw [h1]); (try rw [h2]); (try rw [h3]); (try rw [h4]); (try rw [p1]); (try rw [p2]); (try rw [p3]); (try rw [p4]); (try rw [r1]); (try rw [r2]); (try rw [r3]); (try rw [r4]); (try rw [r5]); (try rw [r6]); (try rw [q3]); (try rw [q4]); (try rw [hp]); (try rw [hq]); go_big_quiet_on)))
                refine wpQuiet_nil ?_
                rintro _ ⟨tq, rfl⟩))
          refine bodyPost_ret (v := .agg #[.int .i64 (({ g with src := y })).src, .int .i64 (({ g with src := y })).count, .int .i64 (({ g with src := y })).wk.id, .int .i64 (({ g with src := y })).wk.at_, .int .i64 (({ g with src := y })).wk.coins, .int .i64 (({ g with src := y })).wk.seq, .int .i64 (({ g with src := y })).wk.last]) (by simp [results, Try.results79, go_sem, cg0, cg1, cg2, cg3, cg4, cg5, cg6, cr0, cr1, cr2, cr3, cr4, cr5, cr6, lg, lr, hGR, hRG]) rfl ?_
          exact ⟨{ g with src := y }, rfl, (HRV.out.chg (B := [G, R]) zq2 (by simp; omega) (Nat.le_refl _)).up (by omega), Chg.fin (B := [G, R]) ((HCV.out.mono (B' := [p, G, R]) (by simp)).trans zq2) (by simp; omega)⟩
        · have q0 : (v == 0) = false := beq_f h0
          by_cases h1 : v = 1
          · subst h1
            clear cg0 cg1 cg2 cg3 cg4 cg5 cg6 zcg0 zcg1 zcg2 zcg3 zcg4 zcg5 zcg6 cr0 cr1 cr2 cr3 cr4 cr5 cr6 zcr0 zcr1 zcr2 zcr3 zcr4 zcr5 zcr6 lg lr h0 q0
            try go_wp2_with (first
                | fail
                | (
                  with_reducible refine wp_region_mix (by kernel_rfl) (by decide +kernel) ?_
                  repeat (first
                    | (refine mix_pure rfl ?_; (first | go_big_quiet_skip | (go_big_quiet_want; go_big_quiet_op; go_big_quiet_on)); refine wpQuiet_nil ?_)
                    | (refine mix_skip (by rfl) ?_; (try simp only [Act.put, List.setIfInBounds_toArray, List.set_cons_zero, List.set_cons_succ]))
                    | (refine mix_mk rfl (by rfl) (fun K hK => ?_); (first | (go_simp; first | skip)); (show K _ _); refine hK _ _ (show Ext _ _ from zq0) ?_; clear hK K; (try simp only [Act.put, List.setIfInBounds_toArray, List.set_cons_zero, List.set_cons_succ])))
                  refine mix_nil ?_)
                | (
                  with_reducible refine wp_region_ext (by kernel_rfl) (by kernel_rfl) ?_
                  repeat (first | go_big_quiet_skip | (go_big_quiet_want; go_big_quiet_op; first | go_big_quiet_on | (apply Exists.intro; refine ⟨fun _ => ?_, ?_⟩; (fail); (try rw [h1]); (try rw [h2]); (try rw [h3]); (try rw [h4]); (try rw [p1]); (try rw [p2]); (try rw [p3]); (try rw [p4]); (try rw [r1]); (try rw [r2]); (try rw [r3]); (try rw [r4]); (try rw [r5]); (try rw [r6]); (try rw [q3]); (try rw [q4]); (try rw [hp]); (try rw [hq]); go_big_quiet_on)))
                  refine wpQuiet_nil ?_
                  rintro _ ⟨tq, rfl⟩))
            refine calls_gen fun X hX => ?_
            obtain ⟨A, hA⟩ : ∃ A, Z.heap.size = A := ⟨_, rfl⟩
            have EX : Ext Z X := by rw [hX]; ((try simp only [ext_drew]); (try simp only [ext_ext]); repeat (first | exact Ext.refl _ | with_reducible apply Ext.add | with_reducible apply Ext.dr | apply Ext.alloc | apply Ext.ext | apply Ext.drew | refine Ext.trans ?_ (by assumption)))
            have ba : X.heap[A]? = some (.cells #[.int .i64 (-1), .int .i64 250, .int .i64 251] 3 (0, 0)) := by rw [hX, ← hA]; exact zq3
            have HHX := hid (HHZ.out.of EX)
            have bg := (EX.block (lt_blk HOZ.out)).trans HOZ.out
            have HRX := hid (HRZ.out.of EX)
            have HCX := hid (HCZ.out.trans (Chg.of_ext EX [p]))
            have lpZ := HRZ.out.lt
            rw [hA]
            have hAp : A ≠ p := by omega
            clear hX EX hA HRZ HCZ HHZ HOZ
            refine (pick_c lo p _ 3 X HRX.out (by omega) (by omega) (by omega)).mono ?_
            rintro e V ⟨v, rfl, hv0', hv1', hRV, hCV⟩
            obtain ⟨i, rfl⟩ : ∃ i : Nat, v = (i : Int) := ⟨v.toNat, by omega⟩
            have baV := (hCV.block A (lt_blk ba) (by simpa using hAp)).trans ba
            have bgV := (hCV.block G (lt_blk bg) (by simpa using hGp)).trans bg
            obtain ⟨_, hbR, rfl⟩ := (HHX.out.chg hCV (by simp; omega)).at (.tail _ (.tail _ (.head _)))
            obtain ⟨y, hyx, hyc⟩ := arr_at (xs := [-1, 250, 251]) (i := i) baV (by simp; omega)
            have HRV := hid hRV
            have HCV := hid (HCX.out.trans hCV)
            have la := lt_blk baV
            have za := frozen_blk baV i
            have hin : (i : Int) < 3 := by omega
            have cg0 : V.cell? ⟨G, 0, none⟩ = some (.int .i64 g.src) := (cell_blk bgV 0).trans rfl
            have cg1 : V.cell? ⟨G, 1, none⟩ = some (.int .i64 g.count) := (cell_blk bgV 1).trans rfl
            have cg2 : V.cell? ⟨G, 2, none⟩ = some (.int .i64 g.wk.id) := (cell_blk bgV 2).trans rfl
            have cg3 : V.cell? ⟨G, 3, none⟩ = some (.int .i64 g.wk.at_) := (cell_blk bgV 3).trans rfl
            have cg4 : V.cell? ⟨G, 4, none⟩ = some (.int .i64 g.wk.coins) := (cell_blk bgV 4).trans rfl
            have cg5 : V.cell? ⟨G, 5, none⟩ = some (.int .i64 g.wk.seq) := (cell_blk bgV 5).trans rfl
            have cg6 : V.cell? ⟨G, 6, none⟩ = some (.int .i64 g.wk.last) := (cell_blk bgV 6).trans rfl
            have zcg0 := frozen_blk bgV 0
            have zcg1 := frozen_blk bgV 1
            have zcg2 := frozen_blk bgV 2
            have zcg3 := frozen_blk bgV 3
            have zcg4 := frozen_blk bgV 4
            have zcg5 := frozen_blk bgV 5
            have zcg6 := frozen_blk bgV 6
            have cr0 : V.cell? ⟨R, 0, none⟩ = some (.int .i64 0) := (cell_blk hbR 0).trans rfl
            have cr1 : V.cell? ⟨R, 1, none⟩ = some (.int .i64 0) := (cell_blk hbR 1).trans rfl
            have cr2 : V.cell? ⟨R, 2, none⟩ = some (.int .i64 0) := (cell_blk hbR 2).trans rfl
            have cr3 : V.cell? ⟨R, 3, none⟩ = some (.int .i64 0) := (cell_blk hbR 3).trans rfl
            have cr4 : V.cell? ⟨R, 4, none⟩ = some (.int .i64 0) := (cell_blk hbR 4).trans rfl
            have cr5 : V.cell? ⟨R, 5, none⟩ = some (.int .i64 0) := (cell_blk hbR 5).trans rfl
            have cr6 : V.cell? ⟨R, 6, none⟩ = some (.int .i64 0) := (cell_blk hbR 6).trans rfl
            have zcr0 := frozen_blk hbR 0
            have zcr1 := frozen_blk hbR 1
            have zcr2 := frozen_blk hbR 2
            have zcr3 := frozen_blk hbR 3
            have zcr4 := frozen_blk hbR 4
            have zcr5 := frozen_blk hbR 5
            have zcr6 := frozen_blk hbR 6
            have lg := lt_blk bgV
            have lr := lt_blk hbR
            clear ba bg baV bgV hbR hRV hCV HRX HCX HHX hyx
            try go_wp2_with (first
                | fail
                | (
                  with_reducible refine wp_region_mix (by kernel_rfl) (by decide +kernel) ?_
                  repeat (first
                    | (refine mix_pure rfl ?_; (first | go_big_quiet_skip | (go_big_quiet_want; go_big_quiet_op; go_big_quiet_on)); refine wpQuiet_nil ?_)
                    | (refine mix_skip (by rfl) ?_; (try simp only [Act.put, List.setIfInBounds_toArray, List.set_cons_zero, List.set_cons_succ]))
                    | (refine mix_mk rfl (by rfl) (fun K hK => ?_); (first | (go_simp; first | skip)); (show K _ _); refine hK _ _ (show Ext _ _ from zq0) ?_; clear hK K; (try simp only [Act.put, List.setIfInBounds_toArray, List.set_cons_zero, List.set_cons_succ])))
                  refine mix_nil ?_)
                | (
                  with_reducible refine wp_region_ext (by kernel_rfl) (by kernel_rfl) ?_
                  repeat (first | go_big_quiet_skip | (go_big_quiet_want; go_big_quiet_op; first | go_big_quiet_on | (apply Exists.intro; refine ⟨fun _ => ?_, ?_⟩; (fail); (try rw [h1]); (try rw [h2]); (try rw [h3]); (try rw [h4]); (try rw [p1]); (try rw [p2]); (try rw [p3]); (try rw [p4]); (try rw [r1]); (try rw [r2]); (try rw [r3]); (try rw [r4]); (try rw [r5]); (try rw [r6]); (try rw [q3]); (try rw [q4]); (try rw [hp]); (try rw [hq]); go_big_quiet_on)))
                  refine wpQuiet_nil ?_
                  rintro _ ⟨tq, rfl⟩))
            refine bodyPost_ret (v := .agg #[.int .i64 (({ g with count := y })).src, .int .i64 (({ g with count := y })).count, .int .i64 (({ g with count := y })).wk.id, .int .i64 (({ g with count := y })).wk.at_, .int .i64 (({ g with count := y })).wk.coins, .int .i64 (({ g with count := y })).wk.seq, .int .i64 (({ g with count := y })).wk.last]) (by simp [results, Try.results79, go_sem, cg0, cg1, cg2, cg3, cg4, cg5, cg6, cr0, cr1, cr2, cr3, cr4, cr5, cr6, lg, lr, hGR, hRG]) rfl ?_
            exact ⟨{ g with count := y }, rfl, (HRV.out.chg (B := [G, R]) zq2 (by simp; omega) (Nat.le_refl _)).up (by omega), Chg.fin (B := [G, R]) ((HCV.out.mono (B' := [p, G, R]) (by simp)).trans zq2) (by simp; omega)⟩
          · have q1 : (v == 1) = false := beq_f h1
            by_cases h2 : v = 2
            · subst h2
              clear h0 h1 q0 q1
              obtain ⟨_, hbS, xs, rfl⟩ := HHZ.out.at (.head _)
              have cs0 : Z.cell? ⟨S, 0, none⟩ = some (.int .i64 xs.id) := (cell_blk hbS 0).trans rfl
              have cs1 : Z.cell? ⟨S, 1, none⟩ = some (.int .i64 xs.at_) := (cell_blk hbS 1).trans rfl
              have cs2 : Z.cell? ⟨S, 2, none⟩ = some (.int .i64 xs.coins) := (cell_blk hbS 2).trans rfl
              have cs3 : Z.cell? ⟨S, 3, none⟩ = some (.int .i64 xs.seq) := (cell_blk hbS 3).trans rfl
              have cs4 : Z.cell? ⟨S, 4, none⟩ = some (.int .i64 xs.last) := (cell_blk hbS 4).trans rfl
              have zcs0 := frozen_blk hbS 0
              have zcs1 := frozen_blk hbS 1
              have zcs2 := frozen_blk hbS 2
              have zcs3 := frozen_blk hbS 3
              have zcs4 := frozen_blk hbS 4
              have ls := lt_blk hbS
              have hSG : S ≠ G := by omega
              have hGS : G ≠ S := by omega
              clear hbS
              try go_wp2_with (first
                  | fail
                  | (
                    with_reducible refine wp_region_mix (by kernel_rfl) (by decide +kernel) ?_
                    repeat (first
                      | (refine mix_pure rfl ?_; (first | go_big_quiet_skip | (go_big_quiet_want; go_big_quiet_op; go_big_quiet_on)); refine wpQuiet_nil ?_)
                      | (refine mix_skip (by rfl) ?_; (try simp only [Act.put, List.setIfInBounds_toArray, List.set_cons_zero, List.set_cons_succ]))
                      | (refine mix_mk rfl (by rfl) (fun K hK => ?_); (first | (go_simp; first | skip)); (show K _ _); refine hK _ _ (show Ext _ _ from zq0) ?_; clear hK K; (try simp only [Act.put, List.setIfInBounds_toArray, List.set_cons_zero, List.set_cons_succ])))
                    refine mix_nil ?_)
                  | (
                    with_reducible refine wp_region_ext (by kernel_rfl) (by kernel_rfl) ?_
                    repeat (first | go_big_quiet_skip | (go_big_quiet_want; go_big_quiet_op; first | go_big_quiet_on | (apply Exists.intro; refine ⟨fun _ => ?_, ?_⟩; (fail); (try rw [h1]); (try rw [h2]); (try rw [h3]); (try rw [h4]); (try rw [p1]); (try rw [p2]); (try rw [p3]); (try rw [p4]); (try rw [r1]); (try rw [r2]); (try rw [r3]); (try rw [r4]); (try rw [r5]); (try rw [r6]); (try rw [q3]); (try rw [q4]); (try rw [hp]); (try rw [hq]); go_big_quiet_on)))
                    refine wpQuiet_nil ?_
                    rintro _ ⟨tq, rfl⟩))
              refine (l20BadWalker_u lo p (Q + 80) xs Z HRZ.out (by omega)).mono ?_
              rintro e V ⟨y, rfl, _, hRV, hCV⟩
              have bgV := (hCV.block G lg (by simpa using hGp)).trans HOZ.out
              obtain ⟨_, hbR, rfl⟩ := (HHZ.out.chg hCV (by simp; omega)).at (.tail _ (.tail _ (.head _)))
              have HRV := hid hRV
              have HCV := hid (HCZ.out.trans hCV)
              clear cg0 cg1 cg2 cg3 cg4 cg5 cg6 zcg0 zcg1 zcg2 zcg3 zcg4 zcg5 zcg6 cr0 cr1 cr2 cr3 cr4 cr5 cr6 zcr0 zcr1 zcr2 zcr3 zcr4 zcr5 zcr6 lg lr cs0 cs1 cs2 cs3 cs4 zcs0 zcs1 zcs2 zcs3 zcs4 ls hRV hCV HRZ HCZ HHZ HOZ
              have cg0 : V.cell? ⟨G, 0, none⟩ = some (.int .i64 g.src) := (cell_blk bgV 0).trans rfl
              have cg1 : V.cell? ⟨G, 1, none⟩ = some (.int .i64 g.count) := (cell_blk bgV 1).trans rfl
              have cg2 : V.cell? ⟨G, 2, none⟩ = some (.int .i64 g.wk.id) := (cell_blk bgV 2).trans rfl
              have cg3 : V.cell? ⟨G, 3, none⟩ = some (.int .i64 g.wk.at_) := (cell_blk bgV 3).trans rfl
              have cg4 : V.cell? ⟨G, 4, none⟩ = some (.int .i64 g.wk.coins) := (cell_blk bgV 4).trans rfl
              have cg5 : V.cell? ⟨G, 5, none⟩ = some (.int .i64 g.wk.seq) := (cell_blk bgV 5).trans rfl
              have cg6 : V.cell? ⟨G, 6, none⟩ = some (.int .i64 g.wk.last) := (cell_blk bgV 6).trans rfl
              have zcg0 := frozen_blk bgV 0
              have zcg1 := frozen_blk bgV 1
              have zcg2 := frozen_blk bgV 2
              have zcg3 := frozen_blk bgV 3
              have zcg4 := frozen_blk bgV 4
              have zcg5 := frozen_blk bgV 5
              have zcg6 := frozen_blk bgV 6
              have cr0 : V.cell? ⟨R, 0, none⟩ = some (.int .i64 0) := (cell_blk hbR 0).trans rfl
              have cr1 : V.cell? ⟨R, 1, none⟩ = some (.int .i64 0) := (cell_blk hbR 1).trans rfl
              have cr2 : V.cell? ⟨R, 2, none⟩ = some (.int .i64 0) := (cell_blk hbR 2).trans rfl
              have cr3 : V.cell? ⟨R, 3, none⟩ = some (.int .i64 0) := (cell_blk hbR 3).trans rfl
              have cr4 : V.cell? ⟨R, 4, none⟩ = some (.int .i64 0) := (cell_blk hbR 4).trans rfl
              have cr5 : V.cell? ⟨R, 5, none⟩ = some (.int .i64 0) := (cell_blk hbR 5).trans rfl
              have cr6 : V.cell? ⟨R, 6, none⟩ = some (.int .i64 0) := (cell_blk hbR 6).trans rfl
              have zcr0 := frozen_blk hbR 0
              have zcr1 := frozen_blk hbR 1
              have zcr2 := frozen_blk hbR 2
              have zcr3 := frozen_blk hbR 3
              have zcr4 := frozen_blk hbR 4
              have zcr5 := frozen_blk hbR 5
              have zcr6 := frozen_blk hbR 6
              have lg := lt_blk bgV
              have lr := lt_blk hbR
              clear bgV hbR
              try go_wp2_with (first
                  | fail
                  | (
                    with_reducible refine wp_region_mix (by kernel_rfl) (by decide +kernel) ?_
                    repeat (first
                      | (refine mix_pure rfl ?_; (first | go_big_quiet_skip | (go_big_quiet_want; go_big_quiet_op; go_big_quiet_on)); refine wpQuiet_nil ?_)
                      | (refine mix_skip (by rfl) ?_; (try simp only [Act.put, List.setIfInBounds_toArray, List.set_cons_zero, List.set_cons_succ]))
                      | (refine mix_mk rfl (by rfl) (fun K hK => ?_); (first | (go_simp; first | skip)); (show K _ _); refine hK _ _ (show Ext _ _ from zq0) ?_; clear hK K; (try simp only [Act.put, List.setIfInBounds_toArray, List.set_cons_zero, List.set_cons_succ])))
                    refine mix_nil ?_)
                  | (
                    with_reducible refine wp_region_ext (by kernel_rfl) (by kernel_rfl) ?_
                    repeat (first | go_big_quiet_skip | (go_big_quiet_want; go_big_quiet_op; first | go_big_quiet_on | (apply Exists.intro; refine ⟨fun _ => ?_, ?_⟩; (fail); (try rw [h1]); (try rw [h2]); (try rw [h3]); (try rw [h4]); (try rw [p1]); (try rw [p2]); (try rw [p3]); (try rw [p4]); (try rw [r1]); (try rw [r2]); (try rw [r3]); (try rw [r4]); (try rw [r5]); (try rw [r6]); (try rw [q3]); (try rw [q4]); (try rw [hp]); (try rw [hq]); go_big_quiet_on)))
                    refine wpQuiet_nil ?_
                    rintro _ ⟨tq, rfl⟩))
              refine bodyPost_ret (v := .agg #[.int .i64 (({ g with wk := y })).src, .int .i64 (({ g with wk := y })).count, .int .i64 (({ g with wk := y })).wk.id, .int .i64 (({ g with wk := y })).wk.at_, .int .i64 (({ g with wk := y })).wk.coins, .int .i64 (({ g with wk := y })).wk.seq, .int .i64 (({ g with wk := y })).wk.last]) (by simp [results, Try.results79, go_sem, cg0, cg1, cg2, cg3, cg4, cg5, cg6, cr0, cr1, cr2, cr3, cr4, cr5, cr6, lg, lr, hGR, hRG]) rfl ?_
              exact ⟨{ g with wk := y }, rfl, (HRV.out.chg (B := [G, R]) zq2 (by simp; omega) (Nat.le_refl _)).up (by omega), Chg.fin (B := [G, R]) ((HCV.out.mono (B' := [p, G, R]) (by simp)).trans zq2) (by simp; omega)⟩
            · have q2 : (v == 2) = false := beq_f h2
              clear h0 h1 h2
              try go_wp2_with (first
                  | fail
                  | (
                    with_reducible refine wp_region_mix (by kernel_rfl) (by decide +kernel) ?_
                    repeat (first
                      | (refine mix_pure rfl ?_; (first | go_big_quiet_skip | (go_big_quiet_want; go_big_quiet_op; go_big_quiet_on)); refine wpQuiet_nil ?_)
                      | (refine mix_skip (by rfl) ?_; (try simp only [Act.put, List.setIfInBounds_toArray, List.set_cons_zero, List.set_cons_succ]))
                      | (refine mix_mk rfl (by rfl) (fun K hK => ?_); (first | (go_simp; first | skip)); (show K _ _); refine hK _ _ (show Ext _ _ from zq0) ?_; clear hK K; (try simp only [Act.put, List.setIfInBounds_toArray, List.set_cons_zero, List.set_cons_succ])))
                    refine mix_nil ?_)
                  | (
                    with_reducible refine wp_region_ext (by kernel_rfl) (by kernel_rfl) ?_
                    repeat (first | go_big_quiet_skip | (go_big_quiet_want; go_big_quiet_op; first | go_big_quiet_on | (apply Exists.intro; refine ⟨fun _ => ?_, ?_⟩; (fail); (try rw [h1]); (try rw [h2]); (try rw [h3]); (try rw [h4]); (try rw [p1]); (try rw [p2]); (try rw [p3]); (try rw [p4]); (try rw [r1]); (try rw [r2]); (try rw [r3]); (try rw [r4]); (try rw [r5]); (try rw [r6]); (try rw [q3]); (try rw [q4]); (try rw [hp]); (try rw [hq]); go_big_quiet_on)))
                    refine wpQuiet_nil ?_
                    rintro _ ⟨tq, rfl⟩))
              refine bodyPost_ret (v := .agg #[.int .i64 g.src, .int .i64 g.count, .int .i64 g.wk.id, .int .i64 g.wk.at_, .int .i64 g.wk.coins, .int .i64 g.wk.seq, .int .i64 g.wk.last]) (by simp [results, Try.results79, go_sem, cg0, cg1, cg2, cg3, cg4, cg5, cg6, cr0, cr1, cr2, cr3, cr4, cr5, cr6, lg, lr, hGR, hRG]) rfl ?_
              exact ⟨g, rfl, (HRZ.out.chg (B := [R]) zq2 (by simp; omega) (Nat.le_refl _)).up (by omega), Chg.fin (B := [R]) ((HCZ.out.mono (B' := [p, R]) (by simp)).trans zq2) (by simp; omega)⟩
end Go.Proofs.Ytbbpipbemhggdaa

namespace Go.Proofs.Ytbbpipbemhggdaa
open Go.RowKit

def gstOk (m : Mp) (g : Gst) : Bool := inB g.count 0 250 && wlkOk m g.wk && (plcCell m g.wk.at_ == g.src) && (plcEdge m g.wk.at_ 0 || plcEdge m g.wk.at_ 1)
theorem iGstOk_c (m : Mp) (g : Gst) (w : World) : Calls Try.prog 80 #[.agg #[.int .i64 m.c, .int .i64 m.w], .agg #[.int .i64 g.src, .int .i64 g.count, .int .i64 g.wk.id, .int .i64 g.wk.at_, .int .i64 g.wk.coins, .int .i64 g.wk.seq, .int .i64 g.wk.last]] w fun e w' => e = .returned (.bool (gstOk m g)) ∧ Ext w w' := by
  cases h1 : inB g.count 0 250 with
  | false =>
    have E := hid (show gstOk m g = false by simp [gstOk, h1])
    go_enter Try.func80, Try.ntmps80
    go_wp2
    with_reducible refine wp_region_ext (by kernel_rfl) (by kernel_rfl) ?_
    repeat (first | go_big_quiet_skip | (go_big_quiet_want; go_big_quiet_op; first | go_big_quiet_on | (apply Exists.intro; refine ⟨fun _ => ?_, ?_⟩; ((first | (go_at_call 61; first | exact quiet_same (in_c _ _ _ _) | exact quiet_same2 (in_c _ _ _ _)) | (go_at_call 88; first | exact quiet_call (iWlkOk_c _ _ _) | exact quiet_call2 (iWlkOk_c _ _ _)) | (go_at_call 16; first | exact quiet_call (iPlcCell_c _ _ _) | exact quiet_call2 (iPlcCell_c _ _ _)) | (go_at_call 19; first | exact quiet_call (iPlcEdge_c _ _ _ _) | exact quiet_call2 (iPlcEdge_c _ _ _ _)))); (try rw [h1]); go_big_quiet_on)))
    refine wpQuiet_nil ?_
    rintro _ ⟨tq, rfl⟩
    go_wp2
    go_ret
    exact ⟨ret_bool (by rw [E.out]), zq0⟩
  | true =>
    cases h2 : wlkOk m g.wk with
    | false =>
      have E := hid (show gstOk m g = false by simp [gstOk, h2])
      go_enter Try.func80, Try.ntmps80
      go_wp2
      with_reducible refine wp_region_ext (by kernel_rfl) (by kernel_rfl) ?_
      repeat (first | go_big_quiet_skip | (go_big_quiet_want; go_big_quiet_op; first | go_big_quiet_on | (apply Exists.intro; refine ⟨fun _ => ?_, ?_⟩; ((first | (go_at_call 61; first | exact quiet_same (in_c _ _ _ _) | exact quiet_same2 (in_c _ _ _ _)) | (go_at_call 88; first | exact quiet_call (iWlkOk_c _ _ _) | exact quiet_call2 (iWlkOk_c _ _ _)) | (go_at_call 16; first | exact quiet_call (iPlcCell_c _ _ _) | exact quiet_call2 (iPlcCell_c _ _ _)) | (go_at_call 19; first | exact quiet_call (iPlcEdge_c _ _ _ _) | exact quiet_call2 (iPlcEdge_c _ _ _ _)))); (try rw [h1]); (try rw [h2]); go_big_quiet_on)))
      refine wpQuiet_nil ?_
      rintro _ ⟨tq, rfl⟩
      go_wp2
      go_ret
      exact ⟨ret_bool (by rw [E.out]), zq0⟩
    | true =>
      by_cases h3 : plcCell m g.wk.at_ = g.src
      · have q3 := beq_t h3
        cases h4 : plcEdge m g.wk.at_ 0 with
        | true =>
          have E := hid (show gstOk m g = true by simp [gstOk, h1, h2, h3, h4])
          clear h3
          go_enter Try.func80, Try.ntmps80
          go_wp2
          with_reducible refine wp_region_ext (by kernel_rfl) (by kernel_rfl) ?_
          repeat (first | go_big_quiet_skip | (go_big_quiet_want; go_big_quiet_op; first | go_big_quiet_on | (apply Exists.intro; refine ⟨fun _ => ?_, ?_⟩; ((first | (go_at_call 61; first | exact quiet_same (in_c _ _ _ _) | exact quiet_same2 (in_c _ _ _ _)) | (go_at_call 88; first | exact quiet_call (iWlkOk_c _ _ _) | exact quiet_call2 (iWlkOk_c _ _ _)) | (go_at_call 16; first | exact quiet_call (iPlcCell_c _ _ _) | exact quiet_call2 (iPlcCell_c _ _ _)) | (go_at_call 19; first | exact quiet_call (iPlcEdge_c _ _ _ _) | exact quiet_call2 (iPlcEdge_c _ _ _ _)))); (try rw [h1]); (try rw [h2]); (try rw [h4]); go_big_quiet_on)))
          refine wpQuiet_nil ?_
          rintro _ ⟨tq, rfl⟩
          go_wp2
          go_ret
          exact ⟨ret_bool (by rw [E.out]), zq0⟩
        | false =>
          have E := hid (show gstOk m g = plcEdge m g.wk.at_ 1 by simp [gstOk, h1, h2, h3, h4])
          clear h3
          go_enter Try.func80, Try.ntmps80
          go_wp2
          with_reducible refine wp_region_ext (by kernel_rfl) (by kernel_rfl) ?_
          repeat (first | go_big_quiet_skip | (go_big_quiet_want; go_big_quiet_op; first | go_big_quiet_on | (apply Exists.intro; refine ⟨fun _ => ?_, ?_⟩; ((first | (go_at_call 61; first | exact quiet_same (in_c _ _ _ _) | exact quiet_same2 (in_c _ _ _ _)) | (go_at_call 88; first | exact quiet_call (iWlkOk_c _ _ _) | exact quiet_call2 (iWlkOk_c _ _ _)) | (go_at_call 16; first | exact quiet_call (iPlcCell_c _ _ _) | exact quiet_call2 (iPlcCell_c _ _ _)) | (go_at_call 19; first | exact quiet_call (iPlcEdge_c _ _ _ _) | exact quiet_call2 (iPlcEdge_c _ _ _ _)))); (try rw [h1]); (try rw [h2]); (try rw [h4]); go_big_quiet_on)))
          refine wpQuiet_nil ?_
          rintro _ ⟨tq, rfl⟩
          go_wp2
          go_ret
          exact ⟨ret_bool (by rw [E.out]), zq0⟩
      · have q3 := beq_f h3
        have E := hid (show gstOk m g = false by simp [gstOk, h3])
        clear h3
        go_enter Try.func80, Try.ntmps80
        go_wp2
        with_reducible refine wp_region_ext (by kernel_rfl) (by kernel_rfl) ?_
        repeat (first | go_big_quiet_skip | (go_big_quiet_want; go_big_quiet_op; first | go_big_quiet_on | (apply Exists.intro; refine ⟨fun _ => ?_, ?_⟩; ((first | (go_at_call 61; first | exact quiet_same (in_c _ _ _ _) | exact quiet_same2 (in_c _ _ _ _)) | (go_at_call 88; first | exact quiet_call (iWlkOk_c _ _ _) | exact quiet_call2 (iWlkOk_c _ _ _)) | (go_at_call 16; first | exact quiet_call (iPlcCell_c _ _ _) | exact quiet_call2 (iPlcCell_c _ _ _)) | (go_at_call 19; first | exact quiet_call (iPlcEdge_c _ _ _ _) | exact quiet_call2 (iPlcEdge_c _ _ _ _)))); (try rw [h1]); (try rw [h2]); go_big_quiet_on)))
        refine wpQuiet_nil ?_
        rintro _ ⟨tq, rfl⟩
        go_wp2
        go_ret
        exact ⟨ret_bool (by rw [E.out]), zq0⟩

theorem sGstOk_c (m : Mp) (g : Gst) (w : World) : Calls Try.prog 52 #[.agg #[.int .i64 m.c, .int .i64 m.w], .agg #[.int .i64 g.src, .int .i64 g.count, .int .i64 g.wk.id, .int .i64 g.wk.at_, .int .i64 g.wk.coins, .int .i64 g.wk.seq, .int .i64 g.wk.last]] w fun e w' => e = .returned (.bool (gstOk m g)) ∧ Ext w w' := by
  cases h1 : inB g.count 0 250 with
  | false =>
    have E := hid (show gstOk m g = false by simp [gstOk, h1])
    go_enter Try.func52, Try.ntmps52
    go_wp2
    with_reducible refine wp_region_ext (by kernel_rfl) (by kernel_rfl) ?_
    repeat (first | go_big_quiet_skip | (go_big_quiet_want; go_big_quiet_op; first | go_big_quiet_on | (apply Exists.intro; refine ⟨fun _ => ?_, ?_⟩; ((first | (go_at_call 60; first | exact quiet_same (l1In_c _ _ _ _) | exact quiet_same2 (l1In_c _ _ _ _)) | (go_at_call 77; first | exact quiet_call (sWlkOk_c _ _ _) | exact quiet_call2 (sWlkOk_c _ _ _)) | (go_at_call 17; first | exact quiet_call (sPlcCell_c _ _ _) | exact quiet_call2 (sPlcCell_c _ _ _)) | (go_at_call 20; first | exact quiet_call (sPlcEdge_c _ _ _ _) | exact quiet_call2 (sPlcEdge_c _ _ _ _)))); (try rw [h1]); go_big_quiet_on)))
    refine wpQuiet_nil ?_
    rintro _ ⟨tq, rfl⟩
    go_wp2
    go_ret
    exact ⟨ret_bool (by rw [E.out]), zq0⟩
  | true =>
    cases h2 : wlkOk m g.wk with
    | false =>
      have E := hid (show gstOk m g = false by simp [gstOk, h2])
      go_enter Try.func52, Try.ntmps52
      go_wp2
      with_reducible refine wp_region_ext (by kernel_rfl) (by kernel_rfl) ?_
      repeat (first | go_big_quiet_skip | (go_big_quiet_want; go_big_quiet_op; first | go_big_quiet_on | (apply Exists.intro; refine ⟨fun _ => ?_, ?_⟩; ((first | (go_at_call 60; first | exact quiet_same (l1In_c _ _ _ _) | exact quiet_same2 (l1In_c _ _ _ _)) | (go_at_call 77; first | exact quiet_call (sWlkOk_c _ _ _) | exact quiet_call2 (sWlkOk_c _ _ _)) | (go_at_call 17; first | exact quiet_call (sPlcCell_c _ _ _) | exact quiet_call2 (sPlcCell_c _ _ _)) | (go_at_call 20; first | exact quiet_call (sPlcEdge_c _ _ _ _) | exact quiet_call2 (sPlcEdge_c _ _ _ _)))); (try rw [h1]); (try rw [h2]); go_big_quiet_on)))
      refine wpQuiet_nil ?_
      rintro _ ⟨tq, rfl⟩
      go_wp2
      go_ret
      exact ⟨ret_bool (by rw [E.out]), zq0⟩
    | true =>
      by_cases h3 : plcCell m g.wk.at_ = g.src
      · have q3 := beq_t h3
        cases h4 : plcEdge m g.wk.at_ 0 with
        | true =>
          have E := hid (show gstOk m g = true by simp [gstOk, h1, h2, h3, h4])
          clear h3
          go_enter Try.func52, Try.ntmps52
          go_wp2
          with_reducible refine wp_region_ext (by kernel_rfl) (by kernel_rfl) ?_
          repeat (first | go_big_quiet_skip | (go_big_quiet_want; go_big_quiet_op; first | go_big_quiet_on | (apply Exists.intro; refine ⟨fun _ => ?_, ?_⟩; ((first | (go_at_call 60; first | exact quiet_same (l1In_c _ _ _ _) | exact quiet_same2 (l1In_c _ _ _ _)) | (go_at_call 77; first | exact quiet_call (sWlkOk_c _ _ _) | exact quiet_call2 (sWlkOk_c _ _ _)) | (go_at_call 17; first | exact quiet_call (sPlcCell_c _ _ _) | exact quiet_call2 (sPlcCell_c _ _ _)) | (go_at_call 20; first | exact quiet_call (sPlcEdge_c _ _ _ _) | exact quiet_call2 (sPlcEdge_c _ _ _ _)))); (try rw [h1]); (try rw [h2]); (try rw [h4]); go_big_quiet_on)))
          refine wpQuiet_nil ?_
          rintro _ ⟨tq, rfl⟩
          go_wp2
          go_ret
          exact ⟨ret_bool (by rw [E.out]), zq0⟩
        | false =>
          have E := hid (show gstOk m g = plcEdge m g.wk.at_ 1 by simp [gstOk, h1, h2, h3, h4])
          clear h3
          go_enter Try.func52, Try.ntmps52
          go_wp2
          with_reducible refine wp_region_ext (by kernel_rfl) (by kernel_rfl) ?_
          repeat (first | go_big_quiet_skip | (go_big_quiet_want; go_big_quiet_op; first | go_big_quiet_on | (apply Exists.intro; refine ⟨fun _ => ?_, ?_⟩; ((first | (go_at_call 60; first | exact quiet_same (l1In_c _ _ _ _) | exact quiet_same2 (l1In_c _ _ _ _)) | (go_at_call 77; first | exact quiet_call (sWlkOk_c _ _ _) | exact quiet_call2 (sWlkOk_c _ _ _)) | (go_at_call 17; first | exact quiet_call (sPlcCell_c _ _ _) | exact quiet_call2 (sPlcCell_c _ _ _)) | (go_at_call 20; first | exact quiet_call (sPlcEdge_c _ _ _ _) | exact quiet_call2 (sPlcEdge_c _ _ _ _)))); (try rw [h1]); (try rw [h2]); (try rw [h4]); go_big_quiet_on)))
          refine wpQuiet_nil ?_
          rintro _ ⟨tq, rfl⟩
          go_wp2
          go_ret
          exact ⟨ret_bool (by rw [E.out]), zq0⟩
      · have q3 := beq_f h3
        have E := hid (show gstOk m g = false by simp [gstOk, h3])
        clear h3
        go_enter Try.func52, Try.ntmps52
        go_wp2
        with_reducible refine wp_region_ext (by kernel_rfl) (by kernel_rfl) ?_
        repeat (first | go_big_quiet_skip | (go_big_quiet_want; go_big_quiet_op; first | go_big_quiet_on | (apply Exists.intro; refine ⟨fun _ => ?_, ?_⟩; ((first | (go_at_call 60; first | exact quiet_same (l1In_c _ _ _ _) | exact quiet_same2 (l1In_c _ _ _ _)) | (go_at_call 77; first | exact quiet_call (sWlkOk_c _ _ _) | exact quiet_call2 (sWlkOk_c _ _ _)) | (go_at_call 17; first | exact quiet_call (sPlcCell_c _ _ _) | exact quiet_call2 (sPlcCell_c _ _ _)) | (go_at_call 20; first | exact quiet_call (sPlcEdge_c _ _ _ _) | exact quiet_call2 (sPlcEdge_c _ _ _ _)))); (try rw [h1]); (try rw [h2]); go_big_quiet_on)))
        refine wpQuiet_nil ?_
        rintro _ ⟨tq, rfl⟩
        go_wp2
        go_ret
        exact ⟨ret_bool (by rw [E.out]), zq0⟩

end Go.Proofs.Ytbbpipbemhggdaa

namespace Go.Proofs.Ytbbpipbemhggdaa

/-- All elements, with their places, pass. -/
def allI {α : Type} (p : Nat → α → Bool) : Nat → List α → Bool
  | _, [] => true
  | i, x :: r => p i x && allI p (i + 1) r
theorem allI_snoc {α : Type} (p : Nat → α → Bool) : ∀ (i : Nat) (l : List α) (x : α), allI p i (l ++ [x]) = (allI p i l && p (i + l.length) x)
  | i, [], x => by simp [allI]
  | i, y :: l, x => by simp [allI, allI_snoc p (i + 1) l x, Bool.and_assoc, Nat.add_comm l.length 1, ← Nat.add_assoc]
theorem take_snoc_of {α : Type} {xs : List α} {k : Nat} {x : α} (h : xs[k]? = some x) : xs.take (k + 1) = xs.take k ++ [x] := by
  rw [List.take_add_one, h]; rfl
theorem lt_of_get {α : Type} {xs : List α} {k : Nat} {x : α} (h : xs[k]? = some x) : k < xs.length := (List.getElem?_eq_some_iff.1 h).1
theorem allI_step {α : Type} {p : Nat → α → Bool} {xs : List α} {k : Nat} {x : α} (h : xs[k]? = some x) (h1 : allI p 0 (xs.take k) = true) (h2 : p k x = true) : allI p 0 (xs.take (k + 1)) = true := by
  have := lt_of_get h
  rw [take_snoc_of h, allI_snoc, h1]
  simp [List.length_take, Nat.min_eq_left (Nat.le_of_lt this), h2]
theorem allI_append {α : Type} (p : Nat → α → Bool) : ∀ (i : Nat) (l r : List α), allI p i (l ++ r) = (allI p i l && allI p (i + l.length) r)
  | i, [], r => by simp [allI]
  | i, y :: l, r => by simp [allI, allI_append p (i + 1) l r, Bool.and_assoc, Nat.add_comm l.length 1, ← Nat.add_assoc]
theorem allI_fail {α : Type} {p : Nat → α → Bool} {xs : List α} {k : Nat} {x : α} (h : xs[k]? = some x) (h2 : p k x = false) : allI p 0 xs = false := by
  have hk := lt_of_get h
  rw [← List.take_append_drop (k + 1) xs, allI_append, take_snoc_of h, allI_snoc]
  simp [List.length_take, Nat.min_eq_left (Nat.le_of_lt hk), h2]
theorem allI_all {α : Type} {p : Nat → α → Bool} {xs : List α} {k : Nat} (hk : xs.length ≤ k) (h1 : allI p 0 (xs.take k) = true) : allI p 0 xs = true := by
  rw [List.take_of_length_le hk] at h1; exact h1
theorem allI_iff {α : Type} {p : Nat → α → Bool} : ∀ {i : Nat} {xs : List α}, allI p i xs = true ↔ ∀ k x, xs[k]? = some x → p (i + k) x = true
  | i, [] => by simp [allI]
  | i, y :: l => by
    simp only [allI, Bool.and_eq_true, allI_iff (i := i + 1) (xs := l)]
    constructor
    · rintro ⟨h0, h1⟩ k x hx
      cases k with
      | zero => simp at hx; subst hx; exact h0
      | succ k => have := h1 k x (by simpa using hx); rwa [show i + (k + 1) = i + 1 + k by omega]
    · intro h
      refine ⟨h 0 y rfl, fun k x hx => ?_⟩
      have := h (k + 1) x (by simpa using hx)
      rwa [show i + (k + 1) = i + 1 + k by omega] at this
end Go.Proofs.Ytbbpipbemhggdaa

