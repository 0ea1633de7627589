/- Draws of walkers, some spoilt, and of lists of them. -/
import Derived.Test.YtbbpipbemhggdaaDx
import Derived.Test.YtbbpipbemhggdaaWlkP
import Derived.Test.YtbbpipbemhggdaaGate
namespace Go.Proofs.Ytbbpipbemhggdaa
open Go.RowKit
set_option linter.unusedSimpArgs false
set_option linter.unusedVariables false

set_option maxRecDepth 100000 in
set_option maxHeartbeats 4000000 in
theorem l20Any_c (lo p Q : Nat) (m : Mp) (n : Int) (w : World) (h : Rdr lo p Q w) (hQ : Q ≤ 90000) (hm : MapIn m) (n1 : 1 ≤ n) (n2 : n ≤ 1000) :
    Calls Try.prog 69 #[.pointer (some ⟨p, 0, none⟩), .agg #[.int .i64 m.c, .int .i64 m.w], .int .i64 n] w fun e w' => ∃ y : Wlk, e = .returned (.agg #[.int .i64 y.id, .int .i64 y.at_, .int .i64 y.coins, .int .i64 y.seq, .int .i64 y.last]) ∧ WlkIn y ∧ Rdr lo p (Q + 23) w' ∧ Chg [p] w w' := by
  have lP := h.lt
  have hlo := h.lo
  have HR := hid h
  have HM := hid hm
  clear h hm
  go_enter Try.func69, Try.ntmps69
  try go_wp2_with (first
      | (go_at_call 89; (with_reducible refine (l20Walker_c lo p Q m _ (HR.out.of (by ((try simp only [ext_drew]); (try simp only [ext_ext]); repeat (first | exact Ext.refl _ | with_reducible apply Ext.add | with_reducible apply Ext.dr | apply Ext.alloc | apply Ext.ext | apply Ext.drew | refine Ext.trans ?_ (by assumption))))) (by omega) HM.out).mono ?_); rintro e w1 ⟨x, rfl, hx, hR, hC⟩; have HX := hid hx; have bR := hid (show w1.heap[w.heap.size + 1]? = some (.cells #[.int .i64 0, .int .i64 0, .int .i64 0, .int .i64 0, .int .i64 0] 52 (0, 0)) from (hC.block _ (by (try simp [go_sem]) <;> (try simp [Xt.add]) <;> omega) (by simp; omega)).trans (by repeat (first | exact alloc_last (by (try simp [go_sem]) <;> (try simp [Xt.add]) <;> omega) | with_reducible refine blk_alloc ?_ | with_reducible refine blk_ext ?_ | with_reducible apply blk_drew))); have HR1 := hid hR; have HC1 := hid (show Chg [p] w w1 from Chg.trans (by repeat (first | with_reducible exact Chg.refl _ _ | with_reducible apply Chg.drew | with_reducible apply Chg.drewl | with_reducible refine Chg.turn (by simp) | with_reducible refine Chg.both ?_ (by simp) | (with_reducible refine Chg.set ?_ (by simp) _) | with_reducible apply Chg.alloc | with_reducible apply Chg.ext)) hC); clear hR hC hx)
      | (
        with_reducible refine wp_region_mix (by kernel_rfl) (by decide +kernel) ?_
        repeat (first
          | (refine mix_pure rfl ?_; (first | go_big_quiet_skip | (go_big_quiet_want; go_big_quiet_op; go_big_quiet_on)); refine wpQuiet_nil ?_)
          | (refine mix_skip (by rfl) ?_; (try simp only [Act.put, List.setIfInBounds_toArray, List.set_cons_zero, List.set_cons_succ]))
          | (refine mix_mk rfl (by rfl) (fun K hK => ?_); (first | (go_simp; first | (go_at_call 89; (with_reducible refine (l20Walker_c lo p Q m _ (HR.out.of (by ((try simp only [ext_drew]); (try simp only [ext_ext]); repeat (first | exact Ext.refl _ | with_reducible apply Ext.add | with_reducible apply Ext.dr | apply Ext.alloc | apply Ext.ext | apply Ext.drew | refine Ext.trans ?_ (by assumption))))) (by omega) HM.out).mono ?_); rintro e w1 ⟨x, rfl, hx, hR, hC⟩; have HX := hid hx; have bR := hid (show w1.heap[w.heap.size + 1]? = some (.cells #[.int .i64 0, .int .i64 0, .int .i64 0, .int .i64 0, .int .i64 0] 52 (0, 0)) from (hC.block _ (by (try simp [go_sem]) <;> (try simp [Xt.add]) <;> omega) (by simp; omega)).trans (by repeat (first | exact alloc_last (by (try simp [go_sem]) <;> (try simp [Xt.add]) <;> omega) | with_reducible refine blk_alloc ?_ | with_reducible refine blk_ext ?_ | with_reducible apply blk_drew))); have HR1 := hid hR; have HC1 := hid (show Chg [p] w w1 from Chg.trans (by repeat (first | with_reducible exact Chg.refl _ _ | with_reducible apply Chg.drew | with_reducible apply Chg.drewl | with_reducible refine Chg.turn (by simp) | with_reducible refine Chg.both ?_ (by simp) | (with_reducible refine Chg.set ?_ (by simp) _) | with_reducible apply Chg.alloc | with_reducible apply Chg.ext)) hC); clear hR hC hx) | skip)); (show K _ _); refine hK _ _ (show Ext _ _ from (by ((try simp only [ext_drew]); (try simp only [ext_ext]); repeat (first | exact Ext.refl _ | with_reducible apply Ext.add | with_reducible apply Ext.dr | apply Ext.alloc | apply Ext.ext | apply Ext.drew | refine Ext.trans ?_ (by assumption))))) ?_; clear hK K; (try simp only [Act.put, List.setIfInBounds_toArray, List.set_cons_zero, List.set_cons_succ])))
        refine mix_nil ?_)
      | (
        with_reducible refine wp_region_ext (by kernel_rfl) (by kernel_rfl) ?_
        repeat (first | go_big_quiet_skip | (go_big_quiet_want; go_big_quiet_op; first | go_big_quiet_on | (apply Exists.intro; refine ⟨fun _ => ?_, ?_⟩; (fail); (try rw [h1]); (try rw [h2]); (try rw [h3]); (try rw [h4]); (try rw [p1]); (try rw [p2]); (try rw [p3]); (try rw [p4]); (try rw [r1]); (try rw [r2]); (try rw [r3]); (try rw [r4]); (try rw [r5]); (try rw [r6]); (try rw [q3]); (try rw [q4]); (try rw [hp]); (try rw [hq]); go_big_quiet_on)))
        refine wpQuiet_nil ?_
        rintro _ ⟨tq, rfl⟩))
  refine calls_gen fun X hX => ?_
  obtain ⟨R, hR⟩ : ∃ R, w.heap.size + 1 = R := ⟨_, rfl⟩
  obtain ⟨XB, hXB⟩ : ∃ XB, w1.heap.size = XB := ⟨_, rfl⟩
  have lR1 := lt_blk bR.out
  have EX : Ext w1 X := by rw [hX]; ((try simp only [ext_drew]); (try simp only [ext_ext]); repeat (first | exact Ext.refl _ | with_reducible apply Ext.add | with_reducible apply Ext.dr | apply Ext.alloc | apply Ext.ext | apply Ext.drew | refine Ext.trans ?_ (by assumption)))
  have bx : X.heap[XB]? = some (.cells #[.int .i64 x.id, .int .i64 x.at_, .int .i64 x.coins, .int .i64 x.seq, .int .i64 x.last] 52 (0, 0)) := by rw [hX, ← hXB]; exact (by repeat (first | exact alloc_last (by (try simp [go_sem]) <;> (try simp [Xt.add]) <;> omega) | with_reducible refine blk_alloc ?_ | with_reducible refine blk_ext ?_ | with_reducible apply blk_drew))
  have br := (EX.block lR1).trans bR.out
  have lp1 := HR1.out.lt
  rw [hR, hXB]
  rw [hR] at br lR1
  have hXR : XB ≠ R := by omega
  have hRX : R ≠ XB := by omega
  have hXp : XB ≠ p := by omega
  have hRp : R ≠ p := by omega
  have hwR : w.heap.size ≤ R := by omega
  have hwX : w.heap.size ≤ XB := by omega
  have HRX := hid (HR1.out.of EX)
  have HCX := hid (HC1.out.trans (Chg.of_ext EX [p]))
  clear hX EX hXB hR HR HR1 HC1 lR1 lp1 bR
  refine (pick_c lo p (Q + 20) n X HRX.out (by omega) (by omega) (by omega)).mono ?_
  rintro e Z ⟨v, rfl, hv0, hv1, hRZ, hCZ⟩
  have bxZ := (hCZ.block XB (lt_blk bx) (by simpa using hXp)).trans bx
  have brZ := (hCZ.block R (lt_blk br) (by simpa using hRp)).trans br
  have HRZ := hid hRZ
  have HCZ := hid (HCX.out.trans hCZ)
  clear bx br hRZ hCZ HRX HCX
  have cx0 : Z.cell? ⟨XB, 0, none⟩ = some (.int .i64 x.id) := (cell_blk bxZ 0).trans rfl
  have cx1 : Z.cell? ⟨XB, 1, none⟩ = some (.int .i64 x.at_) := (cell_blk bxZ 1).trans rfl
  have cx2 : Z.cell? ⟨XB, 2, none⟩ = some (.int .i64 x.coins) := (cell_blk bxZ 2).trans rfl
  have cx3 : Z.cell? ⟨XB, 3, none⟩ = some (.int .i64 x.seq) := (cell_blk bxZ 3).trans rfl
  have cx4 : Z.cell? ⟨XB, 4, none⟩ = some (.int .i64 x.last) := (cell_blk bxZ 4).trans rfl
  have zcx0 := frozen_blk bxZ 0
  have zcx1 := frozen_blk bxZ 1
  have zcx2 := frozen_blk bxZ 2
  have zcx3 := frozen_blk bxZ 3
  have zcx4 := frozen_blk bxZ 4
  have cr0 : Z.cell? ⟨R, 0, none⟩ = some (.int .i64 0) := (cell_blk brZ 0).trans rfl
  have cr1 : Z.cell? ⟨R, 1, none⟩ = some (.int .i64 0) := (cell_blk brZ 1).trans rfl
  have cr2 : Z.cell? ⟨R, 2, none⟩ = some (.int .i64 0) := (cell_blk brZ 2).trans rfl
  have cr3 : Z.cell? ⟨R, 3, none⟩ = some (.int .i64 0) := (cell_blk brZ 3).trans rfl
  have cr4 : Z.cell? ⟨R, 4, none⟩ = some (.int .i64 0) := (cell_blk brZ 4).trans rfl
  have zcr0 := frozen_blk brZ 0
  have zcr1 := frozen_blk brZ 1
  have zcr2 := frozen_blk brZ 2
  have zcr3 := frozen_blk brZ 3
  have zcr4 := frozen_blk brZ 4
  have lx := lt_blk bxZ
  have lr := lt_blk brZ
  have HBR := hid brZ
  clear bxZ brZ
  by_cases hv : v = 0
  · subst hv
    try go_wp2_with (first
        | fail
        | (
          with_reducible refine wp_region_mix (by kernel_rfl) (by decide +kernel) ?_
          repeat (first
            | (refine mix_pure rfl ?_; (first | go_big_quiet_skip | (go_big_quiet_want; go_big_quiet_op; go_big_quiet_on)); refine wpQuiet_nil ?_)
            | (refine mix_skip (by rfl) ?_; (try simp only [Act.put, List.setIfInBounds_toArray, List.set_cons_zero, List.set_cons_succ]))
            | (refine mix_mk rfl (by rfl) (fun K hK => ?_); (first | (go_simp; first | skip)); (show K _ _); refine hK _ _ (show Ext _ _ from (by ((try simp only [ext_drew]); (try simp only [ext_ext]); repeat (first | exact Ext.refl _ | with_reducible apply Ext.add | with_reducible apply Ext.dr | apply Ext.alloc | apply Ext.ext | apply Ext.drew | refine Ext.trans ?_ (by assumption))))) ?_; clear hK K; (try simp only [Act.put, List.setIfInBounds_toArray, List.set_cons_zero, List.set_cons_succ])))
          refine mix_nil ?_)
        | (
          with_reducible refine wp_region_ext (by kernel_rfl) (by kernel_rfl) ?_
          repeat (first | go_big_quiet_skip | (go_big_quiet_want; go_big_quiet_op; first | go_big_quiet_on | (apply Exists.intro; refine ⟨fun _ => ?_, ?_⟩; (fail); (try rw [h1]); (try rw [h2]); (try rw [h3]); (try rw [h4]); (try rw [p1]); (try rw [p2]); (try rw [p3]); (try rw [p4]); (try rw [r1]); (try rw [r2]); (try rw [r3]); (try rw [r4]); (try rw [r5]); (try rw [r6]); (try rw [q3]); (try rw [q4]); (try rw [hp]); (try rw [hq]); go_big_quiet_on)))
          refine wpQuiet_nil ?_
          rintro _ ⟨tq, rfl⟩))
    refine (l20BadWalker_c lo p (Q + 21) x Z HRZ.out (by omega) HX.out).mono ?_
    rintro e V ⟨y, rfl, hy, hR, hC⟩
    have bR := (hC.block R lr (by simpa using hRp)).trans HBR.out
    have HC2 := hid (Chg.trans HCZ.out hC)
    have HR2 := hid hR
    clear cr0 cr1 cr2 cr3 cr4 zcr0 zcr1 zcr2 zcr3 zcr4 lr hR hC
    have cr0 : V.cell? ⟨R, 0, none⟩ = some (.int .i64 0) := (cell_blk bR 0).trans rfl
    have cr1 : V.cell? ⟨R, 1, none⟩ = some (.int .i64 0) := (cell_blk bR 1).trans rfl
    have cr2 : V.cell? ⟨R, 2, none⟩ = some (.int .i64 0) := (cell_blk bR 2).trans rfl
    have cr3 : V.cell? ⟨R, 3, none⟩ = some (.int .i64 0) := (cell_blk bR 3).trans rfl
    have cr4 : V.cell? ⟨R, 4, none⟩ = some (.int .i64 0) := (cell_blk bR 4).trans rfl
    have zcr0 := frozen_blk bR 0
    have zcr1 := frozen_blk bR 1
    have zcr2 := frozen_blk bR 2
    have zcr3 := frozen_blk bR 3
    have zcr4 := frozen_blk bR 4
    have lr := lt_blk bR
    clear bR
    try go_wp2_with (first
        | fail
        | (
          with_reducible refine wp_region_mix (by kernel_rfl) (by decide +kernel) ?_
          repeat (first
            | (refine mix_pure rfl ?_; (first | go_big_quiet_skip | (go_big_quiet_want; go_big_quiet_op; go_big_quiet_on)); refine wpQuiet_nil ?_)
            | (refine mix_skip (by rfl) ?_; (try simp only [Act.put, List.setIfInBounds_toArray, List.set_cons_zero, List.set_cons_succ]))
            | (refine mix_mk rfl (by rfl) (fun K hK => ?_); (first | (go_simp; first | skip)); (show K _ _); refine hK _ _ (show Ext _ _ from (by ((try simp only [ext_drew]); (try simp only [ext_ext]); repeat (first | exact Ext.refl _ | with_reducible apply Ext.add | with_reducible apply Ext.dr | apply Ext.alloc | apply Ext.ext | apply Ext.drew | refine Ext.trans ?_ (by assumption))))) ?_; clear hK K; (try simp only [Act.put, List.setIfInBounds_toArray, List.set_cons_zero, List.set_cons_succ])))
          refine mix_nil ?_)
        | (
          with_reducible refine wp_region_ext (by kernel_rfl) (by kernel_rfl) ?_
          repeat (first | go_big_quiet_skip | (go_big_quiet_want; go_big_quiet_op; first | go_big_quiet_on | (apply Exists.intro; refine ⟨fun _ => ?_, ?_⟩; (fail); (try rw [h1]); (try rw [h2]); (try rw [h3]); (try rw [h4]); (try rw [p1]); (try rw [p2]); (try rw [p3]); (try rw [p4]); (try rw [r1]); (try rw [r2]); (try rw [r3]); (try rw [r4]); (try rw [r5]); (try rw [r6]); (try rw [q3]); (try rw [q4]); (try rw [hp]); (try rw [hq]); go_big_quiet_on)))
          refine wpQuiet_nil ?_
          rintro _ ⟨tq, rfl⟩))
    refine bodyPost_ret (v := .agg #[.int .i64 y.id, .int .i64 y.at_, .int .i64 y.coins, .int .i64 y.seq, .int .i64 y.last]) (by simp [results, Try.results69, go_sem, cr0, cr1, cr2, cr3, cr4, lr]) rfl ?_
    exact ⟨y, rfl, hy, (HR2.out.chg (B := [R]) (by repeat (first | with_reducible exact Chg.refl _ _ | with_reducible apply Chg.drew | (with_reducible refine Chg.extR ?_ (by simp)) | (with_reducible refine Chg.set ?_ (by simp) _) | with_reducible apply Chg.alloc | with_reducible apply Chg.ext | with_reducible refine Chg.trans ?_ (Hid.out (by assumption)))) (by simp; omega) (Nat.le_refl _)).up (by omega), Chg.fin (B := [R]) ((HC2.out.mono (by simp)).trans (by repeat (first | with_reducible exact Chg.refl _ _ | with_reducible apply Chg.drew | (with_reducible refine Chg.extR ?_ (by simp)) | (with_reducible refine Chg.set ?_ (by simp) _) | with_reducible apply Chg.alloc | with_reducible apply Chg.ext | with_reducible refine Chg.trans ?_ (Hid.out (by assumption))))) (by simp; omega)⟩
  · have g : (v == 0) = false := beq_f hv
    clear hv
    try go_wp2_with (first
        | fail
        | (
          with_reducible refine wp_region_mix (by kernel_rfl) (by decide +kernel) ?_
          repeat (first
            | (refine mix_pure rfl ?_; (first | go_big_quiet_skip | (go_big_quiet_want; go_big_quiet_op; go_big_quiet_on)); refine wpQuiet_nil ?_)
            | (refine mix_skip (by rfl) ?_; (try simp only [Act.put, List.setIfInBounds_toArray, List.set_cons_zero, List.set_cons_succ]))
            | (refine mix_mk rfl (by rfl) (fun K hK => ?_); (first | (go_simp; first | skip)); (show K _ _); refine hK _ _ (show Ext _ _ from (by ((try simp only [ext_drew]); (try simp only [ext_ext]); repeat (first | exact Ext.refl _ | with_reducible apply Ext.add | with_reducible apply Ext.dr | apply Ext.alloc | apply Ext.ext | apply Ext.drew | refine Ext.trans ?_ (by assumption))))) ?_; clear hK K; (try simp only [Act.put, List.setIfInBounds_toArray, List.set_cons_zero, List.set_cons_succ])))
          refine mix_nil ?_)
        | (
          with_reducible refine wp_region_ext (by kernel_rfl) (by kernel_rfl) ?_
          repeat (first | go_big_quiet_skip | (go_big_quiet_want; go_big_quiet_op; first | go_big_quiet_on | (apply Exists.intro; refine ⟨fun _ => ?_, ?_⟩; (fail); (try rw [h1]); (try rw [h2]); (try rw [h3]); (try rw [h4]); (try rw [p1]); (try rw [p2]); (try rw [p3]); (try rw [p4]); (try rw [r1]); (try rw [r2]); (try rw [r3]); (try rw [r4]); (try rw [r5]); (try rw [r6]); (try rw [q3]); (try rw [q4]); (try rw [hp]); (try rw [hq]); go_big_quiet_on)))
          refine wpQuiet_nil ?_
          rintro _ ⟨tq, rfl⟩))
    refine bodyPost_ret (v := .agg #[.int .i64 x.id, .int .i64 x.at_, .int .i64 x.coins, .int .i64 x.seq, .int .i64 x.last]) (by simp [results, Try.results69, go_sem, cx0, cx1, cx2, cx3, cx4, cr0, cr1, cr2, cr3, cr4, lx, lr, hXR, hRX]) rfl ?_
    exact ⟨x, rfl, HX.out, (HRZ.out.chg (B := [R]) (by repeat (first | with_reducible exact Chg.refl _ _ | with_reducible apply Chg.drew | (with_reducible refine Chg.extR ?_ (by simp)) | (with_reducible refine Chg.set ?_ (by simp) _) | with_reducible apply Chg.alloc | with_reducible apply Chg.ext | with_reducible refine Chg.trans ?_ (Hid.out (by assumption)))) (by simp; omega) (Nat.le_refl _)).up (by omega), Chg.fin (B := [R]) ((HCZ.out.mono (by simp)).trans (by repeat (first | with_reducible exact Chg.refl _ _ | with_reducible apply Chg.drew | (with_reducible refine Chg.extR ?_ (by simp)) | (with_reducible refine Chg.set ?_ (by simp) _) | with_reducible apply Chg.alloc | with_reducible apply Chg.ext | with_reducible refine Chg.trans ?_ (Hid.out (by assumption))))) (by simp; omega)⟩

section
variable {α : Type} {cells : α → List Value} {k bytes : Nat} {z : Value} {TS T : TypeId}
/-- An element appended to a row: what has changed is told by blocks. -/
theorem wpList_appXK (hT : Try.prog.underlying TS = some (.slice T)) (hI : (Try.prog.info? T).map (fun i => (i.zero, i.size, i.bytes)) = some (some z, k, bytes)) (hz : z.cells.size = k) (hpos : 0 < k) (hby : bytes ≤ 1024)
    (hcl : ∀ x, (cells x).length = k) (hone : ∀ x, ∀ u ∈ cells x, u.oneCell' = true)
    {ops : Array Oper} {rest : List Oper} {o : Oper} {a : Act} {Q : Exit → Act → World → Prop} {w : World} (hgd : o.guard = none) (s x : Operand) (ho : o.op = .call { callee := .builtin .append, args := #[s, x], argTypes := #[TS, TS] })
    {v : Value} {xs : List α} {B : List Nat} (hs : a.eval s = v) (hown : RowX w T k cells v xs B) (y : α) {b c : Nat} {T' : TypeId} (hx : a.eval x = .slice (some ⟨b, 0, none⟩) 1 c) (hy : w.heap[b]? = some (.cells (cells y).toArray T' (0, 0))) (hn : xs.length ≤ 4194304)
    (h : ∀ v' w' B', RowX w' T k cells v' (xs ++ [y]) B' → Chg B w w' → (B' = B ∨ B' = [w.heap.size]) → wpList Try.prog ops Q rest (a.put o.dst v') w') : wpList Try.prog ops Q (o :: rest) a w :=
  wpList_plain hgd fun _ hK => wp_appX hT hI hz hpos hby hcl hone s x ho hs hown y hx hy hn fun v' w' B' h1 h2 h3 => hK _ _ (h v' w' B' h1 h2 h3)
end
/-- A list of walkers in memory of its own, made behind b0. -/
def LstW (b0 : Nat) (w : World) (v : Value) (xs : List Wlk) : Prop := ∃ B, RowX w 52 5 Wlk.cells v xs B ∧ (∀ b ∈ B, b0 ≤ b) ∧ (∀ x ∈ xs, WlkIn x)
theorem LstW.chg {b0 : Nat} {w w' : World} {v : Value} {xs : List Wlk} {B' : List Nat} (h : LstW b0 w v xs) (hc : Chg B' w w') (hB' : ∀ b ∈ B', b < b0) : LstW b0 w' v xs := by
  obtain ⟨B, h2, h3, h4⟩ := h
  exact ⟨B, h2.chg hc (fun b hb hm => by have := h3 b hb; have := hB' b hm; omega), h3, h4⟩
theorem LstW.of {b0 : Nat} {w w' : World} {v : Value} {xs : List Wlk} (h : LstW b0 w v xs) (hE : Ext w w') : LstW b0 w' v xs := h.chg (Chg.of_ext hE []) (by simp)
theorem LstW.le {b0 b1 : Nat} {w : World} {v : Value} {xs : List Wlk} (h : LstW b0 w v xs) (hb : b1 ≤ b0) : LstW b1 w v xs := by
  obtain ⟨B, h2, h3, h4⟩ := h
  exact ⟨B, h2, fun b hm => Nat.le_trans hb (h3 b hm), h4⟩
theorem rowW_re {w : World} {v : Value} {xs : List Wlk} {B : List Nat} (h : RowX w 52 5 Wlk.cells v xs B) : Re w (.sl sWlk) [v] (.l (xs.map Wlk.dat)) := (h.own (k := 5) rfl (fun w x => own_Wlk_mk w x)).re h.lt
theorem wlkPut_mem {xs : List Wlk} {y x : Wlk} (h : x ∈ wlkPut xs y) : x = y ∨ x ∈ xs := by
  unfold wlkPut insAt at h
  rcases List.mem_append.1 h with h | h
  · exact .inr ((List.mem_filter.1 (List.mem_of_mem_take h)).1)
  · rcases List.mem_cons.1 h with h | h
    · exact .inl h
    · exact .inr ((List.mem_filter.1 (List.mem_of_mem_drop h)).1)
def wkArr (arr : Array Value) (k : Nat) (y : Wlk) : Array Value := ((((arr.setIfInBounds (k * 5) (.int .i64 y.id)).setIfInBounds (k * 5 + 1) (.int .i64 y.at_)).setIfInBounds (k * 5 + 2) (.int .i64 y.coins)).setIfInBounds (k * 5 + 3) (.int .i64 y.seq)).setIfInBounds (k * 5 + 4) (.int .i64 y.last)
theorem wkO {arr : Array Value} {i j : Nat} {v : Value} {x : Option Value} (h : i ≠ j) (k : arr[j]? = x) : (arr.setIfInBounds i v)[j]? = x := by
  rw [Array.getElem?_setIfInBounds_ne h]; exact k
theorem wkA {arr : Array Value} {i j : Nat} {v : Value} (e : i = j) (h : i < arr.size) : (arr.setIfInBounds i v)[j]? = some v := by
  subst e; rw [Array.getElem?_setIfInBounds, if_pos rfl, if_pos h]
theorem wkArr_ok {arr : Array Value} {k : Nat} {y : Wlk} (hsz : k * 5 + 5 ≤ arr.size) :
    (wkArr arr k y).size = arr.size ∧ (∀ i, ¬ (k * 5 ≤ i ∧ i < k * 5 + 5) → (wkArr arr k y)[i]? = arr[i]?) ∧ (∀ i v, y.cells[i]? = some v → (wkArr arr k y)[k * 5 + i]? = some v) := by
  unfold wkArr
  refine ⟨by simp, fun i hi => ?_, fun i v hv => ?_⟩
  · repeat (with_reducible refine wkO (by omega) ?_)
    rfl
  · match i, hv with
    | 0, hv =>
      repeat (with_reducible refine wkO (by omega) ?_)
      exact (wkA (by omega) (by (try simp only [Array.size_setIfInBounds]); omega)).trans hv
    | 1, hv =>
      repeat (with_reducible refine wkO (by omega) ?_)
      exact (wkA (by omega) (by (try simp only [Array.size_setIfInBounds]); omega)).trans hv
    | 2, hv =>
      repeat (with_reducible refine wkO (by omega) ?_)
      exact (wkA (by omega) (by (try simp only [Array.size_setIfInBounds]); omega)).trans hv
    | 3, hv =>
      repeat (with_reducible refine wkO (by omega) ?_)
      exact (wkA (by omega) (by (try simp only [Array.size_setIfInBounds]); omega)).trans hv
    | 4, hv =>
      repeat (with_reducible refine wkO (by omega) ?_)
      exact (wkA (by omega) (by (try simp only [Array.size_setIfInBounds]); omega)).trans hv
set_option maxRecDepth 100000 in
set_option maxHeartbeats 4000000 in
theorem l20List_c (lo p Q : Nat) (m : Mp) (n : Int) (w : World) (h : Rdr lo p Q w) (hQ : Q ≤ 80000) (hm : MapIn m) (n1 : 1 ≤ n) (n2 : n ≤ 1000) :
    Calls Try.prog 68 #[.pointer (some ⟨p, 0, none⟩), .agg #[.int .i64 m.c, .int .i64 m.w], .int .i64 n] w fun e w' => ∃ (v : Value) (xs : List Wlk), e = .returned v ∧ LstW w.heap.size w' v xs ∧ xs.length ≤ 6 ∧ Rdr lo p (Q + 106) w' ∧ Chg [p] w w' := by
  have lP := h.lt
  have hlo := h.lo
  have HR := hid h
  have HM := hid hm
  clear h hm
  go_enter Try.func68, Try.ntmps68
  try go_wp2_with (first
      | fail
      | (
        with_reducible refine wp_region_mix (by kernel_rfl) (by decide +kernel) ?_
        repeat (first
          | (refine mix_pure rfl ?_; (first | go_big_quiet_skip | (go_big_quiet_want; go_big_quiet_op; go_big_quiet_on)); refine wpQuiet_nil ?_)
          | (refine mix_skip (by rfl) ?_; (try simp only [Act.put, List.setIfInBounds_toArray, List.set_cons_zero, List.set_cons_succ]))
          | (refine mix_mk rfl (by rfl) (fun K hK => ?_); (first | (go_simp; first | skip)); (show K _ _); refine hK _ _ (show Ext _ _ from (by ((try simp only [ext_drew]); (try simp only [ext_ext]); repeat (first | exact Ext.refl _ | with_reducible apply Ext.add | with_reducible apply Ext.dr | apply Ext.alloc | apply Ext.ext | apply Ext.drew | refine Ext.trans ?_ (by assumption))))) ?_; clear hK K; (try simp only [Act.put, List.setIfInBounds_toArray, List.set_cons_zero, List.set_cons_succ])))
        refine mix_nil ?_)
      | (
        with_reducible refine wp_region_ext (by kernel_rfl) (by kernel_rfl) ?_
        repeat (first | go_big_quiet_skip | (go_big_quiet_want; go_big_quiet_op; first | go_big_quiet_on | (apply Exists.intro; refine ⟨fun _ => ?_, ?_⟩; (fail); (try rw [h1]); (try rw [h2]); (try rw [h3]); (try rw [h4]); (try rw [p1]); (try rw [p2]); (try rw [p3]); (try rw [p4]); (try rw [r1]); (try rw [r2]); (try rw [r3]); (try rw [r4]); (try rw [r5]); (try rw [r6]); (try rw [q3]); (try rw [q4]); (try rw [hp]); (try rw [hq]); go_big_quiet_on)))
        refine wpQuiet_nil ?_
        rintro _ ⟨tq, rfl⟩))
  refine calls_gen fun X hX => ?_
  obtain ⟨M, hMe⟩ : ∃ M, w.heap.size = M := ⟨_, rfl⟩
  have EX : Ext w X := by rw [hX]; ((try simp only [ext_drew]); (try simp only [ext_ext]); repeat (first | exact Ext.refl _ | with_reducible apply Ext.add | with_reducible apply Ext.dr | apply Ext.alloc | apply Ext.ext | apply Ext.drew | refine Ext.trans ?_ (by assumption)))
  have bm : X.heap[M]? = some (.cells #[.int .i64 m.c, .int .i64 m.w] 24 (0, 0)) := by rw [hX, ← hMe]; exact (by repeat (first | exact alloc_last (by (try simp [go_sem]) <;> (try simp [Xt.add]) <;> omega) | with_reducible refine blk_alloc ?_ | with_reducible refine blk_ext ?_ | with_reducible apply blk_drew))
  have lM := lt_blk bm
  obtain ⟨S, hS⟩ : ∃ S, w.heap.size + 1 = S := ⟨_, rfl⟩
  rw [hS, hMe]
  have hMp : M ≠ p := by omega
  have hwM : w.heap.size ≤ M := by omega
  have HRX := hid (HR.out.of EX)
  have HEX := hid EX
  clear hX EX hS hMe HR
  refine (pick_c lo p Q 6 X HRX.out (by omega) (by omega) (by omega)).mono ?_
  rintro e Y ⟨v, rfl, hv0, hv1, hRY, hCY⟩
  obtain ⟨k0, rfl⟩ : ∃ i : Nat, v = (i : Int) := ⟨v.toNat, by omega⟩
  have hk0 : k0 ≤ 5 := by omega
  have bmY := (hCY.block M lM (by simpa using hMp)).trans bm
  have HC0 := hid ((Chg.of_ext HEX.out [p]).trans hCY)
  have HRY := hid hRY
  have HBM := hid bmY
  clear bm lM hRY hCY HRX HEX hv0 hv1 bmY
  try go_wp2_with (first
      | fail
      | (
        with_reducible refine wp_region_mix (by kernel_rfl) (by decide +kernel) ?_
        repeat (first
          | (refine mix_pure rfl ?_; (first | go_big_quiet_skip | (go_big_quiet_want; go_big_quiet_op; go_big_quiet_on)); refine wpQuiet_nil ?_)
          | (refine mix_skip (by rfl) ?_; (try simp only [Act.put, List.setIfInBounds_toArray, List.set_cons_zero, List.set_cons_succ]))
          | (refine mix_mk rfl (by rfl) (fun K hK => ?_); (first | (go_simp; first | skip)); (show K _ _); refine hK _ _ (show Ext _ _ from (by ((try simp only [ext_drew]); (try simp only [ext_ext]); repeat (first | exact Ext.refl _ | with_reducible apply Ext.add | with_reducible apply Ext.dr | apply Ext.alloc | apply Ext.ext | apply Ext.drew | refine Ext.trans ?_ (by assumption))))) ?_; clear hK K; (try simp only [Act.put, List.setIfInBounds_toArray, List.set_cons_zero, List.set_cons_succ])))
        refine mix_nil ?_)
      | (
        with_reducible refine wp_region_ext (by kernel_rfl) (by kernel_rfl) ?_
        repeat (first | go_big_quiet_skip | (go_big_quiet_want; go_big_quiet_op; first | go_big_quiet_on | (apply Exists.intro; refine ⟨fun _ => ?_, ?_⟩; (fail); (try rw [h1]); (try rw [h2]); (try rw [h3]); (try rw [h4]); (try rw [p1]); (try rw [p2]); (try rw [p3]); (try rw [p4]); (try rw [r1]); (try rw [r2]); (try rw [r3]); (try rw [r4]); (try rw [r5]); (try rw [r6]); (try rw [q3]); (try rw [q4]); (try rw [hp]); (try rw [hq]); go_big_quiet_on)))
        refine wpQuiet_nil ?_
        rintro _ ⟨tq, rfl⟩))
  go_loopw [7, 8] (fun v i wr => ∃ (k : Nat) (xs : List Wlk) (a : Option Addr) (c : Nat) (B : List Nat), k ≤ 5 ∧ i = .int .i64 k ∧ v = .slice a xs.length c ∧ xs.length + k ≤ 5 ∧ (∀ x ∈ xs, WlkIn x) ∧ RowX wr 52 5 Wlk.cells (.slice a xs.length c) xs B ∧ (∀ b ∈ B, w.heap.size ≤ b) ∧ Rdr lo p (Q + 1 + 20 * (5 - k)) wr ∧ Chg [p] w wr ∧ wr.heap[M]? = some (.cells #[.int .i64 m.c, .int .i64 m.w] 24 (0, 0))) (fun _ i _ => (intOf i).toNat)
  case atStart => exact ⟨k0, [], _, _, [], hk0, rfl, rfl, by simpa using hk0, by simp, .inl ⟨rfl, rfl, _, rfl, .inr ⟨_, rfl⟩⟩, by simp, (HRY.out.of (by ((try simp only [ext_drew]); (try simp only [ext_ext]); repeat (first | exact Ext.refl _ | with_reducible apply Ext.add | with_reducible apply Ext.dr | apply Ext.alloc | apply Ext.ext | apply Ext.drew | refine Ext.trans ?_ (by assumption))))).up (by omega), HC0.out.trans (Chg.of_ext (by ((try simp only [ext_drew]); (try simp only [ext_ext]); repeat (first | exact Ext.refl _ | with_reducible apply Ext.add | with_reducible apply Ext.dr | apply Ext.alloc | apply Ext.ext | apply Ext.drew | refine Ext.trans ?_ (by assumption)))) [p]), (by repeat (first | with_reducible exact HBM.out | with_reducible apply blk_drew | with_reducible refine blk_set ?_ | (with_reducible refine blk_other ?_ (by first | assumption | omega)) | with_reducible refine blk_ext ?_ | with_reducible refine blk_alloc ?_))⟩
  case round =>
    obtain ⟨k, xs, a, c, B, hk, rfl, rfl, hxk, hin, hrow, hB, hR, hC, bM⟩ := hrel
    have HIN := hid hin
    have HROW := hid hrow
    have HB := hid hB
    have HR := hid hR
    have HC := hid hC
    have cM0 : wr.cell? ⟨M, 0, none⟩ = some (.int .i64 m.c) := (cell_blk bM 0).trans rfl
    have cM1 : wr.cell? ⟨M, 1, none⟩ = some (.int .i64 m.w) := (cell_blk bM 1).trans rfl
    have lM := lt_blk bM
    have HBM := hid bM
    clear hin hrow hB hR hC bM
    by_cases hk1 : 0 < k
    · try go_wp2_with (first
          | fail
          | (
            with_reducible refine wp_region_mix (by kernel_rfl) (by decide +kernel) ?_
            repeat (first
              | (refine mix_pure rfl ?_; (first | go_big_quiet_skip | (go_big_quiet_want; go_big_quiet_op; go_big_quiet_on)); refine wpQuiet_nil ?_)
              | (refine mix_skip (by rfl) ?_; (try simp only [Act.put, List.setIfInBounds_toArray, List.set_cons_zero, List.set_cons_succ]))
              | (refine mix_mk rfl (by rfl) (fun K hK => ?_); (first | (go_simp; first | skip)); (show K _ _); refine hK _ _ (show Ext _ _ from (by ((try simp only [ext_drew]); (try simp only [ext_ext]); repeat (first | exact Ext.refl _ | with_reducible apply Ext.add | with_reducible apply Ext.dr | apply Ext.alloc | apply Ext.ext | apply Ext.drew | refine Ext.trans ?_ (by assumption))))) ?_; clear hK K; (try simp only [Act.put, List.setIfInBounds_toArray, List.set_cons_zero, List.set_cons_succ])))
            refine mix_nil ?_)
          | (
            with_reducible refine wp_region_ext (by kernel_rfl) (by kernel_rfl) ?_
            repeat (first | go_big_quiet_skip | (go_big_quiet_want; go_big_quiet_op; first | go_big_quiet_on | (apply Exists.intro; refine ⟨fun _ => ?_, ?_⟩; (fail); (try rw [h1]); (try rw [h2]); (try rw [h3]); (try rw [h4]); (try rw [p1]); (try rw [p2]); (try rw [p3]); (try rw [p4]); (try rw [r1]); (try rw [r2]); (try rw [r3]); (try rw [r4]); (try rw [r5]); (try rw [r6]); (try rw [q3]); (try rw [q4]); (try rw [hp]); (try rw [hq]); go_big_quiet_on)))
            refine wpQuiet_nil ?_
            rintro _ ⟨tq, rfl⟩))
      refine calls_gen fun X hX => ?_
      have EX : Ext wr X := by rw [hX]; ((try simp only [ext_drew]); (try simp only [ext_ext]); repeat (first | exact Ext.refl _ | with_reducible apply Ext.add | with_reducible apply Ext.dr | apply Ext.alloc | apply Ext.ext | apply Ext.drew | refine Ext.trans ?_ (by assumption)))
      have hrX := hid (HROW.out.of EX)
      have HRX := hid (HR.out.of EX)
      have HCX := hid (HC.out.trans (Chg.of_ext EX [p]))
      have bM := (EX.block lM).trans HBM.out
      clear hX EX cM0 cM1 lM HBM HROW HR HC
      refine (l20Walker_c lo p _ m X HRX.out (by omega) HM.out).mono ?_
      rintro e Y9 ⟨y, rfl, hy, hRY, hCY⟩
      have hrY := hrX.out.chg hCY (fun b hb => by have := HB.out b hb; simp; omega)
      have bMY := (hCY.block M (lt_blk bM) (by simpa using hMp)).trans bM
      have HCY := hid (HCX.out.trans hCY)
      have HRY9 := hid hRY
      have HBM := hid bMY
      have HRE := hid (rowW_re hrY)
      have hws := HCY.out.size
      clear hrX HRX HCX bM hRY hCY hrY bMY
      try go_wp2_with (first
          | (go_at_call 38; (with_reducible refine (sWlkPut_c xs y _ _ _ _ (HRE.out.of (by ((try simp only [ext_drew]); (try simp only [ext_ext]); repeat (first | exact Ext.refl _ | with_reducible apply Ext.add | with_reducible apply Ext.dr | apply Ext.alloc | apply Ext.ext | apply Ext.drew | refine Ext.trans ?_ (by assumption))))) (by omega)).mono ?_); rintro e w' ⟨a2, c2, B2, rfl, ⟨t2, rfl⟩, ho, hb⟩; have HO := hid ho; have HB2 := hid hb; clear ho hb)
          | (
            with_reducible refine wp_region_mix (by kernel_rfl) (by decide +kernel) ?_
            repeat (first
              | (refine mix_pure rfl ?_; (first | go_big_quiet_skip | (go_big_quiet_want; go_big_quiet_op; go_big_quiet_on)); refine wpQuiet_nil ?_)
              | (refine mix_skip (by rfl) ?_; (try simp only [Act.put, List.setIfInBounds_toArray, List.set_cons_zero, List.set_cons_succ]))
              | (refine mix_mk rfl (by rfl) (fun K hK => ?_); (first | (go_simp; first | (go_at_call 38; (with_reducible refine (sWlkPut_c xs y _ _ _ _ (HRE.out.of (by ((try simp only [ext_drew]); (try simp only [ext_ext]); repeat (first | exact Ext.refl _ | with_reducible apply Ext.add | with_reducible apply Ext.dr | apply Ext.alloc | apply Ext.ext | apply Ext.drew | refine Ext.trans ?_ (by assumption))))) (by omega)).mono ?_); rintro e w' ⟨a2, c2, B2, rfl, ⟨t2, rfl⟩, ho, hb⟩; have HO := hid ho; have HB2 := hid hb; clear ho hb) | skip)); (show K _ _); refine hK _ _ (show Ext _ _ from (by ((try simp only [ext_drew]); (try simp only [ext_ext]); repeat (first | exact Ext.refl _ | with_reducible apply Ext.add | with_reducible apply Ext.dr | apply Ext.alloc | apply Ext.ext | apply Ext.drew | refine Ext.trans ?_ (by assumption))))) ?_; clear hK K; (try simp only [Act.put, List.setIfInBounds_toArray, List.set_cons_zero, List.set_cons_succ])))
            refine mix_nil ?_)
          | (
            with_reducible refine wp_region_ext (by kernel_rfl) (by kernel_rfl) ?_
            repeat (first | go_big_quiet_skip | (go_big_quiet_want; go_big_quiet_op; first | go_big_quiet_on | (apply Exists.intro; refine ⟨fun _ => ?_, ?_⟩; (fail); (try rw [h1]); (try rw [h2]); (try rw [h3]); (try rw [h4]); (try rw [p1]); (try rw [p2]); (try rw [p3]); (try rw [p4]); (try rw [r1]); (try rw [r2]); (try rw [r3]); (try rw [r4]); (try rw [r5]); (try rw [r6]); (try rw [q3]); (try rw [q4]); (try rw [hp]); (try rw [hq]); go_big_quiet_on)))
            refine wpQuiet_nil ?_
            rintro _ ⟨tq, rfl⟩))
      go_roundw
      case rel => exact ⟨k - 1, wlkPut xs y, a2, c2, B2, by omega, by go_num, rfl, by have := wlkPut_len xs y; omega, fun x hx => by rcases wlkPut_mem hx with rfl | hx; exact hy; exact HIN.out x hx, HO.out.of (by ((try simp only [ext_drew]); (try simp only [ext_ext]); repeat (first | exact Ext.refl _ | with_reducible apply Ext.add | with_reducible apply Ext.dr | apply Ext.alloc | apply Ext.ext | apply Ext.drew | refine Ext.trans ?_ (by assumption)))), fun b hb => Nat.le_trans hws (HB2.out b hb), (HRY9.out.of (by ((try simp only [ext_drew]); (try simp only [ext_ext]); repeat (first | exact Ext.refl _ | with_reducible apply Ext.add | with_reducible apply Ext.dr | apply Ext.alloc | apply Ext.ext | apply Ext.drew | refine Ext.trans ?_ (by assumption))))).up (by omega), HCY.out.trans (Chg.of_ext (by ((try simp only [ext_drew]); (try simp only [ext_ext]); repeat (first | exact Ext.refl _ | with_reducible apply Ext.add | with_reducible apply Ext.dr | apply Ext.alloc | apply Ext.ext | apply Ext.drew | refine Ext.trans ?_ (by assumption)))) [p]), (by repeat (first | with_reducible exact HBM.out | with_reducible apply blk_drew | with_reducible refine blk_set ?_ | (with_reducible refine blk_other ?_ (by first | assumption | omega)) | with_reducible refine blk_ext ?_ | with_reducible refine blk_alloc ?_))⟩
      case measure => simp [intOf]; omega
    · obtain rfl : k = 0 := by omega
      clear hk1 cM0 cM1 lM HBM
      try go_wp2_with (first
          | fail
          | (
            with_reducible refine wp_region_mix (by kernel_rfl) (by decide +kernel) ?_
            repeat (first
              | (refine mix_pure rfl ?_; (first | go_big_quiet_skip | (go_big_quiet_want; go_big_quiet_op; go_big_quiet_on)); refine wpQuiet_nil ?_)
              | (refine mix_skip (by rfl) ?_; (try simp only [Act.put, List.setIfInBounds_toArray, List.set_cons_zero, List.set_cons_succ]))
              | (refine mix_mk rfl (by rfl) (fun K hK => ?_); (first | (go_simp; first | skip)); (show K _ _); refine hK _ _ (show Ext _ _ from (by ((try simp only [ext_drew]); (try simp only [ext_ext]); repeat (first | exact Ext.refl _ | with_reducible apply Ext.add | with_reducible apply Ext.dr | apply Ext.alloc | apply Ext.ext | apply Ext.drew | refine Ext.trans ?_ (by assumption))))) ?_; clear hK K; (try simp only [Act.put, List.setIfInBounds_toArray, List.set_cons_zero, List.set_cons_succ])))
            refine mix_nil ?_)
          | (
            with_reducible refine wp_region_ext (by kernel_rfl) (by kernel_rfl) ?_
            repeat (first | go_big_quiet_skip | (go_big_quiet_want; go_big_quiet_op; first | go_big_quiet_on | (apply Exists.intro; refine ⟨fun _ => ?_, ?_⟩; (fail); (try rw [h1]); (try rw [h2]); (try rw [h3]); (try rw [h4]); (try rw [p1]); (try rw [p2]); (try rw [p3]); (try rw [p4]); (try rw [r1]); (try rw [r2]); (try rw [r3]); (try rw [r4]); (try rw [r5]); (try rw [r6]); (try rw [q3]); (try rw [q4]); (try rw [hp]); (try rw [hq]); go_big_quiet_on)))
            refine wpQuiet_nil ?_
            rintro _ ⟨tq, rfl⟩))
      refine (pick_c lo p (Q + 101) n wr (HR.out.up (by omega)) (by omega) (by omega) (by omega)).mono ?_
      rintro e Z ⟨v, rfl, hv0, hv1, hRZ, hCZ⟩
      have HRZ := hid hRZ
      have hrZ := HROW.out.chg hCZ (fun b hb => by have := HB.out b hb; simp; omega)
      have HCZ := hid (HC.out.trans hCZ)
      have HROZ := hid hrZ
      clear hRZ hCZ hrZ HROW HR HC
      by_cases hv : v = 0
      · subst hv
        clear hv0 hv1
        by_cases hn0 : 0 < xs.length
        · have hn9 : xs.length ≤ 5 := by omega
          obtain ⟨x1, hx1⟩ : ∃ x, xs.length = x := ⟨_, rfl⟩
          rw [hx1] at hn0 hn9 HROZ ⊢
          have HX1 := hid hx1
          clear hx1 hxk
          try go_wp2_with (first
              | fail
              | (
                with_reducible refine wp_region_mix (by kernel_rfl) (by decide +kernel) ?_
                repeat (first
                  | (refine mix_pure rfl ?_; (first | go_big_quiet_skip | (go_big_quiet_want; go_big_quiet_op; go_big_quiet_on)); refine wpQuiet_nil ?_)
                  | (refine mix_skip (by rfl) ?_; (try simp only [Act.put, List.setIfInBounds_toArray, List.set_cons_zero, List.set_cons_succ]))
                  | (refine mix_mk rfl (by rfl) (fun K hK => ?_); (first | (go_simp; first | skip)); (show K _ _); refine hK _ _ (show Ext _ _ from (by ((try simp only [ext_drew]); (try simp only [ext_ext]); repeat (first | exact Ext.refl _ | with_reducible apply Ext.add | with_reducible apply Ext.dr | apply Ext.alloc | apply Ext.ext | apply Ext.drew | refine Ext.trans ?_ (by assumption))))) ?_; clear hK K; (try simp only [Act.put, List.setIfInBounds_toArray, List.set_cons_zero, List.set_cons_succ])))
                refine mix_nil ?_)
              | (
                with_reducible refine wp_region_ext (by kernel_rfl) (by kernel_rfl) ?_
                repeat (first | go_big_quiet_skip | (go_big_quiet_want; go_big_quiet_op; first | go_big_quiet_on | (apply Exists.intro; refine ⟨fun _ => ?_, ?_⟩; (fail); (try rw [h1]); (try rw [h2]); (try rw [h3]); (try rw [h4]); (try rw [p1]); (try rw [p2]); (try rw [p3]); (try rw [p4]); (try rw [r1]); (try rw [r2]); (try rw [r3]); (try rw [r4]); (try rw [r5]); (try rw [r6]); (try rw [q3]); (try rw [q4]); (try rw [hp]); (try rw [hq]); go_big_quiet_on)))
                refine wpQuiet_nil ?_
                rintro _ ⟨tq, rfl⟩))
          refine (pick_c lo p (Q + 102) x1 Z HRZ.out (by omega) (by omega) (by omega)).mono ?_
          rintro e Z2 ⟨v, rfl, hv0, hv1, hRY, hCY⟩
          obtain ⟨j, rfl⟩ : ∃ i : Nat, v = (i : Int) := ⟨v.toNat, by omega⟩
          have hj : j < x1 := by omega
          have hrY := HROZ.out.chg hCY (fun b hb => by have := HB.out b hb; simp; omega)
          have HRY2 := hid hRY
          have HCY := hid (HCZ.out.trans hCY)
          have HROY := hid hrY
          clear hRY hCY hrY HROZ HCZ HRZ hv0 hv1
          obtain ⟨g, cur, x, hga, hBg, hnn, hnc, hxj, hb, hsz, hcell, hput⟩ := RowX.at (cells := Wlk.cells) (k := 5) (j := j) (by decide) (fun _ => rfl) HROY.out (by have := HX1.out; omega)
          subst hga
          have HPUT := hid hput
          have HSZ := hid hsz
          have HCELL := hid hcell
          have hgw : w.heap.size ≤ g := HB.out g (by rw [hBg]; simp)
          have HBG := hid hBg
          have hgp : g ≠ p := by omega
          have hxin := HIN.out x (List.mem_of_getElem? hxj)
          have cg0 : Z2.cell? ⟨g, j * 5, none⟩ = some (.int .i64 x.id) := (cell_blk hb (j * 5)).trans (hcell 0 _ rfl)
          have cg1 : Z2.cell? ⟨g, j * 5 + 1, none⟩ = some (.int .i64 x.at_) := (cell_blk hb (j * 5 + 1)).trans (hcell 1 _ rfl)
          have cg2 : Z2.cell? ⟨g, j * 5 + 2, none⟩ = some (.int .i64 x.coins) := (cell_blk hb (j * 5 + 2)).trans (hcell 2 _ rfl)
          have cg3 : Z2.cell? ⟨g, j * 5 + 3, none⟩ = some (.int .i64 x.seq) := (cell_blk hb (j * 5 + 3)).trans (hcell 3 _ rfl)
          have cg4 : Z2.cell? ⟨g, j * 5 + 4, none⟩ = some (.int .i64 x.last) := (cell_blk hb (j * 5 + 4)).trans (hcell 4 _ rfl)
          have zcg0 := frozen_blk hb (j * 5)
          have zcg1 := frozen_blk hb (j * 5 + 1)
          have zcg2 := frozen_blk hb (j * 5 + 2)
          have zcg3 := frozen_blk hb (j * 5 + 3)
          have zcg4 := frozen_blk hb (j * 5 + 4)
          have lcg0 := lt_blk hb
          have HXJ := hid hxj
          have HBL := hid hb
          clear hput hsz hcell hBg hnn hb hxj
          try go_wp2_with (first
              | fail
              | (
                with_reducible refine wp_region_mix (by kernel_rfl) (by decide +kernel) ?_
                repeat (first
                  | (refine mix_pure rfl ?_; (first | go_big_quiet_skip | (go_big_quiet_want; go_big_quiet_op; go_big_quiet_on)); refine wpQuiet_nil ?_)
                  | (refine mix_skip (by rfl) ?_; (try simp only [Act.put, List.setIfInBounds_toArray, List.set_cons_zero, List.set_cons_succ]))
                  | (refine mix_mk rfl (by rfl) (fun K hK => ?_); (first | (go_simp; first | skip)); (show K _ _); refine hK _ _ (show Ext _ _ from (by ((try simp only [ext_drew]); (try simp only [ext_ext]); repeat (first | exact Ext.refl _ | with_reducible apply Ext.add | with_reducible apply Ext.dr | apply Ext.alloc | apply Ext.ext | apply Ext.drew | refine Ext.trans ?_ (by assumption))))) ?_; clear hK K; (try simp only [Act.put, List.setIfInBounds_toArray, List.set_cons_zero, List.set_cons_succ])))
                refine mix_nil ?_)
              | (
                with_reducible refine wp_region_ext (by kernel_rfl) (by kernel_rfl) ?_
                repeat (first | go_big_quiet_skip | (go_big_quiet_want; go_big_quiet_op; first | go_big_quiet_on | (apply Exists.intro; refine ⟨fun _ => ?_, ?_⟩; (fail); (try rw [h1]); (try rw [h2]); (try rw [h3]); (try rw [h4]); (try rw [p1]); (try rw [p2]); (try rw [p3]); (try rw [p4]); (try rw [r1]); (try rw [r2]); (try rw [r3]); (try rw [r4]); (try rw [r5]); (try rw [r6]); (try rw [q3]); (try rw [q4]); (try rw [hp]); (try rw [hq]); go_big_quiet_on)))
                refine wpQuiet_nil ?_
                rintro _ ⟨tq, rfl⟩))
          refine (l20BadWalker_c lo p (Q + 103) x Z2 HRY2.out (by omega) hxin).mono ?_
          rintro e V ⟨y, rfl, hy, hRV, hCV⟩
          have hbV := (hCV.block g lcg0 (by simpa using hgp)).trans HBL.out
          have HRV := hid hRV
          have HCV := hid (HCY.out.trans hCV)
          clear cg0 cg1 cg2 cg3 cg4 zcg0 zcg1 zcg2 zcg3 zcg4 lcg0 hRV hCV HRY2 HCY HBL
          have cg0 : V.cell? ⟨g, j * 5, none⟩ = some (.int .i64 x.id) := (cell_blk hbV (j * 5)).trans (HCELL.out 0 _ rfl)
          have cg1 : V.cell? ⟨g, j * 5 + 1, none⟩ = some (.int .i64 x.at_) := (cell_blk hbV (j * 5 + 1)).trans (HCELL.out 1 _ rfl)
          have cg2 : V.cell? ⟨g, j * 5 + 2, none⟩ = some (.int .i64 x.coins) := (cell_blk hbV (j * 5 + 2)).trans (HCELL.out 2 _ rfl)
          have cg3 : V.cell? ⟨g, j * 5 + 3, none⟩ = some (.int .i64 x.seq) := (cell_blk hbV (j * 5 + 3)).trans (HCELL.out 3 _ rfl)
          have cg4 : V.cell? ⟨g, j * 5 + 4, none⟩ = some (.int .i64 x.last) := (cell_blk hbV (j * 5 + 4)).trans (HCELL.out 4 _ rfl)
          have zcg0 := frozen_blk hbV (j * 5)
          have zcg1 := frozen_blk hbV (j * 5 + 1)
          have zcg2 := frozen_blk hbV (j * 5 + 2)
          have zcg3 := frozen_blk hbV (j * 5 + 3)
          have zcg4 := frozen_blk hbV (j * 5 + 4)
          have lcg0 := lt_blk hbV
          have HBL := hid hbV
          have HPUT2 := HPUT
          clear hbV HPUT
          try go_wp2_with (first
              | fail
              | (
                with_reducible refine wp_region_mix (by kernel_rfl) (by decide +kernel) ?_
                repeat (first
                  | (refine mix_pure rfl ?_; (first | go_big_quiet_skip | (go_big_quiet_want; go_big_quiet_op; go_big_quiet_on)); refine wpQuiet_nil ?_)
                  | (refine mix_skip (by rfl) ?_; (try simp only [Act.put, List.setIfInBounds_toArray, List.set_cons_zero, List.set_cons_succ]))
                  | (refine mix_mk rfl (by rfl) (fun K hK => ?_); (first | (go_simp; first | skip)); (show K _ _); refine hK _ _ (show Ext _ _ from (by ((try simp only [ext_drew]); (try simp only [ext_ext]); repeat (first | exact Ext.refl _ | with_reducible apply Ext.add | with_reducible apply Ext.dr | apply Ext.alloc | apply Ext.ext | apply Ext.drew | refine Ext.trans ?_ (by assumption))))) ?_; clear hK K; (try simp only [Act.put, List.setIfInBounds_toArray, List.set_cons_zero, List.set_cons_succ])))
                refine mix_nil ?_)
              | (
                with_reducible refine wp_region_ext (by kernel_rfl) (by kernel_rfl) ?_
                repeat (first | go_big_quiet_skip | (go_big_quiet_want; go_big_quiet_op; first | go_big_quiet_on | (apply Exists.intro; refine ⟨fun _ => ?_, ?_⟩; (fail); (try rw [h1]); (try rw [h2]); (try rw [h3]); (try rw [h4]); (try rw [p1]); (try rw [p2]); (try rw [p3]); (try rw [p4]); (try rw [r1]); (try rw [r2]); (try rw [r3]); (try rw [r4]); (try rw [r5]); (try rw [r6]); (try rw [q3]); (try rw [q4]); (try rw [hp]); (try rw [hq]); go_big_quiet_on)))
                refine wpQuiet_nil ?_
                rintro _ ⟨tq, rfl⟩))
          refine calls_gen fun X hX => ?_
          have hYb : X.heap[g]? = some (.cells (wkArr cur j y) 52 (0, 0)) := by rw [hX]; unfold wkArr; exact (by repeat (first | with_reducible exact HBL.out | with_reducible apply blk_drew | with_reducible refine blk_set ?_ | (with_reducible refine blk_other ?_ (by first | assumption | omega)) | with_reducible refine blk_ext ?_ | with_reducible refine blk_alloc ?_))
          have hch : Chg [g] V X := by rw [hX]; exact (by repeat (first | with_reducible exact Chg.refl _ _ | with_reducible apply Chg.drew | with_reducible apply Chg.drewl | with_reducible refine Chg.turn (by simp) | with_reducible refine Chg.both ?_ (by simp) | (with_reducible refine Chg.set ?_ (by simp) _) | with_reducible apply Chg.alloc | with_reducible apply Chg.ext))
          have hrX := HPUT2.out X (wkArr cur j y) y hYb (wkArr_ok HSZ.out).1 (wkArr_ok HSZ.out).2.1 (wkArr_ok HSZ.out).2.2
          obtain ⟨ys, hys⟩ : ∃ ys, xs.set j y = ys := ⟨_, rfl⟩
          have hyl : ys.length = x1 := by rw [← hys, List.length_set]; exact HX1.out
          have hyin : ∀ z ∈ ys, WlkIn z := fun z hz => by
            rw [← hys] at hz
            rcases List.mem_or_eq_of_mem_set hz with h | rfl
            · exact HIN.out z h
            · exact hy
          rw [hys] at hrX
          have HYI := hid hyin
          have HYL := hid hyl
          have HRX := hid (HRV.out.chg (B := [g]) hch (by simp; omega) (Nat.le_refl _))
          have HCX := hid (Chg.fin (B := [g]) ((HCV.out.mono (B' := [p, g]) (by simp)).trans (hch.mono (by simp))) (by simp; omega))
          have HROX := hid hrX
          clear hX hYb hch hrX hys hyl hyin HPUT2 HRV HCV HBL HSZ HCELL HX1 cg0 cg1 cg2 cg3 cg4 zcg0 zcg1 zcg2 zcg3 zcg4 lcg0 HIN HXJ hxin hy
          refine (pick_c lo p (Q + 105) 2 X HRX.out (by omega) (by omega) (by omega)).mono ?_
          rintro e Z3 ⟨v, rfl, hv0, hv1, hRZ, hCZ⟩
          have hrZ := HROX.out.chg hCZ (fun b hb => by have := HB.out b hb; simp; omega)
          have HRZ3 := hid hRZ
          have HCZ3 := hid (HCX.out.trans hCZ)
          have HROZ := hid hrZ
          clear hRZ hCZ hrZ HROX HCX HRX
          by_cases hv : v = 0
          · subst hv
            clear hv0 hv1
            obtain ⟨g2, cur2, x0, hga, hBg, hnn, hnc, hxj, hb, hsz, hcell, hput⟩ := RowX.at (cells := Wlk.cells) (k := 5) (j := 0) (by decide) (fun _ => rfl) HROZ.out (by have := HYL.out; omega)
            obtain rfl : g = g2 := by simpa using hga
            have hxin := HYI.out x0 (List.mem_of_getElem? hxj)
            have ce0 : Z3.cell? ⟨g, 0, none⟩ = some (.int .i64 x0.id) := (cell_blk hb 0).trans (hcell 0 _ rfl)
            have ce1 : Z3.cell? ⟨g, 1, none⟩ = some (.int .i64 x0.at_) := (cell_blk hb 1).trans (hcell 1 _ rfl)
            have ce2 : Z3.cell? ⟨g, 2, none⟩ = some (.int .i64 x0.coins) := (cell_blk hb 2).trans (hcell 2 _ rfl)
            have ce3 : Z3.cell? ⟨g, 3, none⟩ = some (.int .i64 x0.seq) := (cell_blk hb 3).trans (hcell 3 _ rfl)
            have ce4 : Z3.cell? ⟨g, 4, none⟩ = some (.int .i64 x0.last) := (cell_blk hb 4).trans (hcell 4 _ rfl)
            have le := lt_blk hb
            have HXI := hid hxin
            have HBG2 := hid hBg
            have hyl5 : ys.length ≤ 5 := by have := HYL.out; omega
            clear hga hBg hnn hb hsz hcell hput hxj hxin
            try go_wp2_with (first
                | ((with_reducible refine app_gate ?_); (refine wpList_appXK (cells := Wlk.cells) (k := 5) (bytes := 40) (z := .agg #[.int .i64 0, .int .i64 0, .int .i64 0, .int .i64 0, .int .i64 0]) Try.underlying50 (by kernel_rfl) rfl (by decide) (by decide) (fun _ => rfl) (fun x u hu => by simp only [Wlk.cells, List.mem_cons, List.not_mem_nil, or_false] at hu; rcases hu with rfl | rfl | rfl | rfl | rfl <;> rfl) rfl _ _ rfl rfl (xs := ys) (HROZ.out.of (by ((try simp only [ext_drew]); (try simp only [ext_ext]); repeat (first | exact Ext.refl _ | with_reducible apply Ext.add | with_reducible apply Ext.dr | apply Ext.alloc | apply Ext.ext | apply Ext.drew | refine Ext.trans ?_ (by assumption))))) (x0) rfl (alloc_last (by (try simp [go_sem]) <;> (try simp [Xt.add]) <;> omega)) (by omega) ?_); intro v' w' B' h1 h2 h3; have HROZ' := hid h1; have HROZc := hid h2; have HROZb := hid h3; clear h1 h2 h3)
                | (
                  with_reducible refine wp_region_mix (by kernel_rfl) (by decide +kernel) ?_
                  repeat (first
                    | (refine mix_pure rfl ?_; (first | go_big_quiet_skip | (go_big_quiet_want; go_big_quiet_op; go_big_quiet_on)); refine wpQuiet_nil ?_)
                    | (refine mix_skip (by rfl) ?_; (try simp only [Act.put, List.setIfInBounds_toArray, List.set_cons_zero, List.set_cons_succ]))
                    | (refine mix_mk rfl (by rfl) (fun K hK => ?_); (first | (go_simp; first | ((with_reducible refine app_gate ?_); (refine wpList_appXK (cells := Wlk.cells) (k := 5) (bytes := 40) (z := .agg #[.int .i64 0, .int .i64 0, .int .i64 0, .int .i64 0, .int .i64 0]) Try.underlying50 (by kernel_rfl) rfl (by decide) (by decide) (fun _ => rfl) (fun x u hu => by simp only [Wlk.cells, List.mem_cons, List.not_mem_nil, or_false] at hu; rcases hu with rfl | rfl | rfl | rfl | rfl <;> rfl) rfl _ _ rfl rfl (xs := ys) (HROZ.out.of (by ((try simp only [ext_drew]); (try simp only [ext_ext]); repeat (first | exact Ext.refl _ | with_reducible apply Ext.add | with_reducible apply Ext.dr | apply Ext.alloc | apply Ext.ext | apply Ext.drew | refine Ext.trans ?_ (by assumption))))) (x0) rfl (alloc_last (by (try simp [go_sem]) <;> (try simp [Xt.add]) <;> omega)) (by omega) ?_); intro v' w' B' h1 h2 h3; have HROZ' := hid h1; have HROZc := hid h2; have HROZb := hid h3; clear h1 h2 h3) | skip)); (show K _ _); refine hK _ _ (show Ext _ _ from (by ((try simp only [ext_drew]); (try simp only [ext_ext]); repeat (first | exact Ext.refl _ | with_reducible apply Ext.add | with_reducible apply Ext.dr | apply Ext.alloc | apply Ext.ext | apply Ext.drew | refine Ext.trans ?_ (by assumption))))) ?_; clear hK K; (try simp only [Act.put, List.setIfInBounds_toArray, List.set_cons_zero, List.set_cons_succ])))
                  refine mix_nil ?_)
                | (
                  with_reducible refine wp_region_ext (by kernel_rfl) (by kernel_rfl) ?_
                  repeat (first | go_big_quiet_skip | (go_big_quiet_want; go_big_quiet_op; first | go_big_quiet_on | (apply Exists.intro; refine ⟨fun _ => ?_, ?_⟩; (fail); (try rw [h1]); (try rw [h2]); (try rw [h3]); (try rw [h4]); (try rw [p1]); (try rw [p2]); (try rw [p3]); (try rw [p4]); (try rw [r1]); (try rw [r2]); (try rw [r3]); (try rw [r4]); (try rw [r5]); (try rw [r6]); (try rw [q3]); (try rw [q4]); (try rw [hp]); (try rw [hq]); go_big_quiet_on)))
                  refine wpQuiet_nil ?_
                  rintro _ ⟨tq, rfl⟩))
            go_ret
            have hBg' : ∀ b ∈ B, b = g := fun b hb => by have := HBG2.out; subst this; simpa using hb
            have hZs := HCZ3.out.size
            have hBn : ∀ b ∈ B', w.heap.size ≤ b := fun b hb => by
              rcases HROZb.out with h | h
              · subst h; exact HB.out b hb
              · subst h
                obtain rfl := List.mem_singleton.1 hb
                exact Nat.le_trans hZs (by (try simp [go_sem]) <;> (try simp [Xt.add]) <;> omega)
            have hchB : Chg B Z3 w' := Chg.trans (by repeat (first | with_reducible exact Chg.refl _ _ | with_reducible apply Chg.drew | with_reducible apply Chg.drewl | with_reducible refine Chg.turn (by simp) | with_reducible refine Chg.both ?_ (by simp) | (with_reducible refine Chg.set ?_ (by simp) _) | with_reducible apply Chg.alloc | with_reducible apply Chg.ext)) HROZc.out
            refine ⟨_, ys ++ [x0], rfl, ⟨_, HROZ'.out, hBn, fun z hz => ?_⟩, by have := HYL.out; simp; omega, (HRZ3.out.chg hchB (fun b hb => by have := hBg' b hb; omega) (Nat.le_refl _)).up (by omega), HCZ3.out.up hchB HB.out⟩
            rcases List.mem_append.1 hz with hz | hz
            · exact HYI.out z hz
            · obtain rfl := List.mem_singleton.1 hz
              exact HXI.out
          · have g9 : (v == 0) = false := beq_f hv
            clear hv
            try go_wp2_with (first
                | fail
                | (
                  with_reducible refine wp_region_mix (by kernel_rfl) (by decide +kernel) ?_
                  repeat (first
                    | (refine mix_pure rfl ?_; (first | go_big_quiet_skip | (go_big_quiet_want; go_big_quiet_op; go_big_quiet_on)); refine wpQuiet_nil ?_)
                    | (refine mix_skip (by rfl) ?_; (try simp only [Act.put, List.setIfInBounds_toArray, List.set_cons_zero, List.set_cons_succ]))
                    | (refine mix_mk rfl (by rfl) (fun K hK => ?_); (first | (go_simp; first | skip)); (show K _ _); refine hK _ _ (show Ext _ _ from (by ((try simp only [ext_drew]); (try simp only [ext_ext]); repeat (first | exact Ext.refl _ | with_reducible apply Ext.add | with_reducible apply Ext.dr | apply Ext.alloc | apply Ext.ext | apply Ext.drew | refine Ext.trans ?_ (by assumption))))) ?_; clear hK K; (try simp only [Act.put, List.setIfInBounds_toArray, List.set_cons_zero, List.set_cons_succ])))
                  refine mix_nil ?_)
                | (
                  with_reducible refine wp_region_ext (by kernel_rfl) (by kernel_rfl) ?_
                  repeat (first | go_big_quiet_skip | (go_big_quiet_want; go_big_quiet_op; first | go_big_quiet_on | (apply Exists.intro; refine ⟨fun _ => ?_, ?_⟩; (fail); (try rw [h1]); (try rw [h2]); (try rw [h3]); (try rw [h4]); (try rw [p1]); (try rw [p2]); (try rw [p3]); (try rw [p4]); (try rw [r1]); (try rw [r2]); (try rw [r3]); (try rw [r4]); (try rw [r5]); (try rw [r6]); (try rw [q3]); (try rw [q4]); (try rw [hp]); (try rw [hq]); go_big_quiet_on)))
                  refine wpQuiet_nil ?_
                  rintro _ ⟨tq, rfl⟩))
            go_ret
            refine ⟨_, ys, rfl, ⟨_, HROZ.out.of (by ((try simp only [ext_drew]); (try simp only [ext_ext]); repeat (first | exact Ext.refl _ | with_reducible apply Ext.add | with_reducible apply Ext.dr | apply Ext.alloc | apply Ext.ext | apply Ext.drew | refine Ext.trans ?_ (by assumption)))), HB.out, HYI.out⟩, by have := HYL.out; omega, (HRZ3.out.of (by ((try simp only [ext_drew]); (try simp only [ext_ext]); repeat (first | exact Ext.refl _ | with_reducible apply Ext.add | with_reducible apply Ext.dr | apply Ext.alloc | apply Ext.ext | apply Ext.drew | refine Ext.trans ?_ (by assumption))))).up (by omega), HCZ3.out.trans (Chg.of_ext (by ((try simp only [ext_drew]); (try simp only [ext_ext]); repeat (first | exact Ext.refl _ | with_reducible apply Ext.add | with_reducible apply Ext.dr | apply Ext.alloc | apply Ext.ext | apply Ext.drew | refine Ext.trans ?_ (by assumption)))) [p])⟩
        · try go_wp2_with (first
              | fail
              | (
                with_reducible refine wp_region_mix (by kernel_rfl) (by decide +kernel) ?_
                repeat (first
                  | (refine mix_pure rfl ?_; (first | go_big_quiet_skip | (go_big_quiet_want; go_big_quiet_op; go_big_quiet_on)); refine wpQuiet_nil ?_)
                  | (refine mix_skip (by rfl) ?_; (try simp only [Act.put, List.setIfInBounds_toArray, List.set_cons_zero, List.set_cons_succ]))
                  | (refine mix_mk rfl (by rfl) (fun K hK => ?_); (first | (go_simp; first | skip)); (show K _ _); refine hK _ _ (show Ext _ _ from (by ((try simp only [ext_drew]); (try simp only [ext_ext]); repeat (first | exact Ext.refl _ | with_reducible apply Ext.add | with_reducible apply Ext.dr | apply Ext.alloc | apply Ext.ext | apply Ext.drew | refine Ext.trans ?_ (by assumption))))) ?_; clear hK K; (try simp only [Act.put, List.setIfInBounds_toArray, List.set_cons_zero, List.set_cons_succ])))
                refine mix_nil ?_)
              | (
                with_reducible refine wp_region_ext (by kernel_rfl) (by kernel_rfl) ?_
                repeat (first | go_big_quiet_skip | (go_big_quiet_want; go_big_quiet_op; first | go_big_quiet_on | (apply Exists.intro; refine ⟨fun _ => ?_, ?_⟩; (fail); (try rw [h1]); (try rw [h2]); (try rw [h3]); (try rw [h4]); (try rw [p1]); (try rw [p2]); (try rw [p3]); (try rw [p4]); (try rw [r1]); (try rw [r2]); (try rw [r3]); (try rw [r4]); (try rw [r5]); (try rw [r6]); (try rw [q3]); (try rw [q4]); (try rw [hp]); (try rw [hq]); go_big_quiet_on)))
                refine wpQuiet_nil ?_
                rintro _ ⟨tq, rfl⟩))
          go_ret
          exact ⟨_, xs, rfl, ⟨_, HROZ.out.of (by ((try simp only [ext_drew]); (try simp only [ext_ext]); repeat (first | exact Ext.refl _ | with_reducible apply Ext.add | with_reducible apply Ext.dr | apply Ext.alloc | apply Ext.ext | apply Ext.drew | refine Ext.trans ?_ (by assumption)))), HB.out, HIN.out⟩, by omega, (HRZ.out.of (by ((try simp only [ext_drew]); (try simp only [ext_ext]); repeat (first | exact Ext.refl _ | with_reducible apply Ext.add | with_reducible apply Ext.dr | apply Ext.alloc | apply Ext.ext | apply Ext.drew | refine Ext.trans ?_ (by assumption))))).up (by omega), HCZ.out.trans (Chg.of_ext (by ((try simp only [ext_drew]); (try simp only [ext_ext]); repeat (first | exact Ext.refl _ | with_reducible apply Ext.add | with_reducible apply Ext.dr | apply Ext.alloc | apply Ext.ext | apply Ext.drew | refine Ext.trans ?_ (by assumption)))) [p])⟩
      · have g : (v == 0) = false := beq_f hv
        clear hv
        try go_wp2_with (first
            | fail
            | (
              with_reducible refine wp_region_mix (by kernel_rfl) (by decide +kernel) ?_
              repeat (first
                | (refine mix_pure rfl ?_; (first | go_big_quiet_skip | (go_big_quiet_want; go_big_quiet_op; go_big_quiet_on)); refine wpQuiet_nil ?_)
                | (refine mix_skip (by rfl) ?_; (try simp only [Act.put, List.setIfInBounds_toArray, List.set_cons_zero, List.set_cons_succ]))
                | (refine mix_mk rfl (by rfl) (fun K hK => ?_); (first | (go_simp; first | skip)); (show K _ _); refine hK _ _ (show Ext _ _ from (by ((try simp only [ext_drew]); (try simp only [ext_ext]); repeat (first | exact Ext.refl _ | with_reducible apply Ext.add | with_reducible apply Ext.dr | apply Ext.alloc | apply Ext.ext | apply Ext.drew | refine Ext.trans ?_ (by assumption))))) ?_; clear hK K; (try simp only [Act.put, List.setIfInBounds_toArray, List.set_cons_zero, List.set_cons_succ])))
              refine mix_nil ?_)
            | (
              with_reducible refine wp_region_ext (by kernel_rfl) (by kernel_rfl) ?_
              repeat (first | go_big_quiet_skip | (go_big_quiet_want; go_big_quiet_op; first | go_big_quiet_on | (apply Exists.intro; refine ⟨fun _ => ?_, ?_⟩; (fail); (try rw [h1]); (try rw [h2]); (try rw [h3]); (try rw [h4]); (try rw [p1]); (try rw [p2]); (try rw [p3]); (try rw [p4]); (try rw [r1]); (try rw [r2]); (try rw [r3]); (try rw [r4]); (try rw [r5]); (try rw [r6]); (try rw [q3]); (try rw [q4]); (try rw [hp]); (try rw [hq]); go_big_quiet_on)))
              refine wpQuiet_nil ?_
              rintro _ ⟨tq, rfl⟩))
        go_ret
        exact ⟨_, xs, rfl, ⟨_, HROZ.out.of (by ((try simp only [ext_drew]); (try simp only [ext_ext]); repeat (first | exact Ext.refl _ | with_reducible apply Ext.add | with_reducible apply Ext.dr | apply Ext.alloc | apply Ext.ext | apply Ext.drew | refine Ext.trans ?_ (by assumption)))), HB.out, HIN.out⟩, by omega, (HRZ.out.of (by ((try simp only [ext_drew]); (try simp only [ext_ext]); repeat (first | exact Ext.refl _ | with_reducible apply Ext.add | with_reducible apply Ext.dr | apply Ext.alloc | apply Ext.ext | apply Ext.drew | refine Ext.trans ?_ (by assumption))))).up (by omega), HCZ.out.trans (Chg.of_ext (by ((try simp only [ext_drew]); (try simp only [ext_ext]); repeat (first | exact Ext.refl _ | with_reducible apply Ext.add | with_reducible apply Ext.dr | apply Ext.alloc | apply Ext.ext | apply Ext.drew | refine Ext.trans ?_ (by assumption)))) [p])⟩
end Go.Proofs.Ytbbpipbemhggdaa
