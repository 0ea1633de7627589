/- OneDown: coins that were in the air land. -/
import Derived.Test.YtcfbfpgcfnpdgaaOneLd
import Derived.Test.YtcfbfpgcfnpdgaaSSm
import Derived.Test.YtcfbfpgcfnpdgaaArbG
namespace Go.Proofs.Ytcfbfpgcfnpdgaa
open Go.RowKit
set_option linter.unusedSimpArgs false
set_option linter.unusedVariables false

theorem airOk_facts {xs : List Int} (h : airOk xs = true) : xs.length = 2 ∧ ∀ x ∈ xs, 0 ≤ x ∧ x ≤ 100000 := by
  match xs, h with
  | [l, r], h =>
    simp only [airOk, Bool.and_eq_true] at h
    have h1 := inB_iff.1 h.1
    have h2 := inB_iff.1 h.2
    refine ⟨rfl, fun x hx => ?_⟩
    simp only [List.mem_cons, List.not_mem_nil, or_false] at hx
    rcases hx with rfl | rfl <;> omega
theorem oneOk_facts {o : One} (h : oneOk o = true) : plcOk o.map = true ∧ (o.ground.length : Int) = o.map.c ∧ (o.air.length : Int) = o.map.c ∧ ∀ (j : Nat) (g : Int) (xs : List Int), o.ground[j]? = some g → o.air[j]? = some xs → 0 ≤ g ∧ g ≤ 900 ∧ xs.length = 2 ∧ ∀ x ∈ xs, 0 ≤ x ∧ x ≤ 100000 := by
  simp only [oneOk, purses, Bool.and_eq_true, beq_iff_eq] at h
  refine ⟨h.1, h.2.1.1, h.2.1.2.1, fun j g xs hg hx => ?_⟩
  have := allI_iff.1 h.2.1.2.2 j g hg
  rw [Nat.zero_add, purseAt_eq hx, Bool.and_eq_true] at this
  have h1 := inB_iff.1 this.1
  have h2 := airOk_facts this.2
  exact ⟨h1.1, h1.2, h2.1, h2.2⟩
def grX (o : One) (cell : Int) : Int := (o.ground[cell.toNat]?).getD 0
def airR (o : One) (cell : Int) : List Int := (o.air[cell.toNat]?).getD []
def airX (o : One) (cell side : Int) : Int := ((airR o cell)[side.toNat]?).getD 0
def downB (o : One) (cell side n : Int) : Bool := inB cell 0 (o.map.c - 1) && (inB side 0 1 && (inB n 1 (airX o cell side) && decide (grX o cell + n ≤ 900)))
def downV (o : One) (cell side n : Int) : One := ⟨o.map, o.wk, o.ground.set cell.toNat (grX o cell + n), o.air.set cell.toNat ((airR o cell).set side.toNat (airX o cell side - n))⟩
def odV (o : One) (cell side n : Int) : One := if oneOk o then (if downB o cell side n then downV o cell side n else o) else oneZ
/-- Nothing but the result's cells changed. -/
theorem one_same {w X W : World} {o : One} {p1 p2 p3 : Option Addr} {q1 q2 q3 n1 T : Nat} {B2 B3 B4 : List Nat} (hE : Ext w X) (hc : Chg [w.heap.size + 1] X W) (e1 : o.wk.length = n1)
    (O2 : Own X (.sl sOnw) [.slice p1 n1 q1] (.l (o.wk.map Onw.dat)) B2) (O3 : Own X (.sl .int) [.slice p2 o.ground.length q2] (.l (o.ground.map Dat.i)) B3) (O4 : Own X (.sl (.sl .int)) [.slice p3 o.air.length q3] (.l (o.air.map (ldat Dat.i))) B4) (hn : (B2 ++ (B3 ++ B4)).Nodup) (hr : ∀ b ∈ B2 ++ (B3 ++ B4), w.heap.size + 2 ≤ b ∧ b < T) (hT : T < X.heap.size) :
    MadeO w o (.returned (.agg #[.int .i64 o.map.c, .int .i64 o.map.w, .slice p1 n1 q1, .slice p2 o.ground.length q2, .slice p3 o.air.length q3])) W := by
  have hk : ∀ b, b ∈ B2 ++ (B3 ++ B4) → b < X.heap.size ∧ b ∉ [w.heap.size + 1] := fun b hb => ⟨by have := hr b hb; omega, by have := hr b hb; simp; omega⟩
  exact made_one hE hc (by simp) e1 rfl rfl (own_keep O2 hc fun b hb => hk b (by simp [hb])) (own_keep O3 hc fun b hb => hk b (by simp [hb])) (own_keep O4 hc fun b hb => hk b (by simp [hb])) hn (fun b hb => by have := hr b hb; omega)

theorem ne_zero_cells {X : World} {b R j n c : Nat} {a : Addr} {T : TypeId} (hR : X.heap[R]? = some (.cells #[.int .i64 0, .int .i64 0, .slice none 0 0, .slice none 0 0, .slice none 0 0] T (0, 0))) (h : X.cell? ⟨b, j, none⟩ = some (.slice (some a) n c)) : b ≠ R := by
  rintro rfl
  rw [cell_blk hR] at h
  match j, h with
  | 0, h => simp at h
  | 1, h => simp at h
  | 2, h => simp at h
  | 3, h => simp at h
  | 4, h => simp at h
  | j + 5, h => simp at h
theorem down_own4 {X W : World} {e : Sch} {B4 : List Nat} {vs vi : List Value} {ds : Dat} {x' : Dat} {b5 b3 R s : Nat} {v : Value} {arr5 : Array Value} {T5 : TypeId} (hX5 : X.heap[b5]? = some (.cells arr5 T5 (0, 0))) (hW5 : W.heap[b5]? = some (.cells (arr5.setIfInBounds s v) T5 (0, 0))) (hc : Chg [b5, b3, R] X W)
    (hU : Own (X.setCell ⟨b5, s, none⟩ v) e vi x' [b5] → Chg [b5] X (X.setCell ⟨b5, s, none⟩ v) → Own (X.setCell ⟨b5, s, none⟩ v) (.sl e) vs ds B4) (h5 : Own (X.setCell ⟨b5, s, none⟩ v) e vi x' [b5]) (hr : ∀ b ∈ B4, b < X.heap.size ∧ b ≠ b3 ∧ b ≠ R) : Own W (.sl e) vs ds B4 := by
  have h4 := hU h5 ((Chg.refl [b5] X).set (by simp) _)
  refine Own.same _ _ _ _ (fun b hb => ?_) h4
  obtain ⟨h1, h2, h3⟩ := hr b hb
  by_cases e5 : b = b5
  · subst e5
    rw [hW5]
    exact (blk_set hX5).symm
  · rw [hc.block b h1 (by simp; exact ⟨e5, h2, h3⟩)]
    exact (blk_other rfl e5).symm
set_option maxRecDepth 100000 in
set_option maxHeartbeats 4000000 in
theorem iOneDown_c (o : One) (h : OneH) (cell side n : Int) (w : World) (hx : ReO w o h) (hb : BdO o) :
    Calls Try.prog 23 #[.agg #[.int .i64 o.map.c, .int .i64 o.map.w, .slice h.a1 o.wk.length h.c1, .slice h.a2 o.ground.length h.c2, .slice h.a3 o.air.length h.c3], .int .i64 cell, .int .i64 side, .int .i64 n] w (MadeO w (odV o cell side n)) := by
  have HX := hid hx
  have HBD := hid hb
  have B1 := hb.b1
  clear hx hb
  cases hok : oneOk o with
  | false =>
    have E := hid hok
    go_enter Try.func23, Try.ntmps23
    try go_wp2_with (first
        | (go_at_call 43; refine (iOneOk_c _ _ _ (ReO.of (Hid.out (by assumption)) (by ((try simp only [ext_drew]); (try simp only [ext_ext]); repeat (first | exact Ext.refl _ | with_reducible apply Ext.add | with_reducible apply Ext.dr | apply Ext.alloc | apply Ext.ext | apply Ext.drew | refine Ext.trans ?_ (by assumption))))) (Hid.out (by assumption))).mono ?_; rintro e w' ⟨rfl, t, rfl⟩)
        | (
          with_reducible refine wp_region_mix (by kernel_rfl) (by decide +kernel) ?_
          repeat (first
            | (refine mix_pure rfl ?_; (first | go_big_quiet_skip | (go_big_quiet_want; go_big_quiet_op; go_big_quiet_on)); refine wpQuiet_nil ?_)
            | (refine mix_skip (by rfl) ?_; (try simp only [Act.put, List.setIfInBounds_toArray, List.set_cons_zero, List.set_cons_succ]))
            | (refine mix_mk rfl (by rfl) (fun K hK => ?_); (first | (go_simp; first | (go_at_call 43; refine (iOneOk_c _ _ _ (ReO.of (Hid.out (by assumption)) (by ((try simp only [ext_drew]); (try simp only [ext_ext]); repeat (first | exact Ext.refl _ | with_reducible apply Ext.add | with_reducible apply Ext.dr | apply Ext.alloc | apply Ext.ext | apply Ext.drew | refine Ext.trans ?_ (by assumption))))) (Hid.out (by assumption))).mono ?_; rintro e w' ⟨rfl, t, rfl⟩) | skip)); (show K _ _); refine hK _ _ (show Ext _ _ from (by ((try simp only [ext_drew]); (try simp only [ext_ext]); repeat (first | exact Ext.refl _ | with_reducible apply Ext.add | with_reducible apply Ext.dr | apply Ext.alloc | apply Ext.ext | apply Ext.drew | refine Ext.trans ?_ (by assumption))))) ?_; clear hK K; (try simp only [Act.put, List.setIfInBounds_toArray, List.set_cons_zero, List.set_cons_succ])))
          refine mix_nil ?_)
        | (
          with_reducible refine wp_region_ext (by kernel_rfl) (by kernel_rfl) ?_
          repeat (first | go_big_quiet_skip | (go_big_quiet_want; go_big_quiet_op; first | go_big_quiet_on | (apply Exists.intro; refine ⟨fun _ => ?_, ?_⟩; ((first | (go_at_call 43; first | exact quiet_call (iOneOk_c _ _ _ (ReO.of (Hid.out (by assumption)) (by ((try simp only [ext_drew]); (try simp only [ext_ext]); repeat (first | exact Ext.refl _ | with_reducible apply Ext.add | with_reducible apply Ext.dr | apply Ext.alloc | apply Ext.ext | apply Ext.drew | refine Ext.trans ?_ (by assumption))))) (Hid.out (by assumption))) | exact quiet_call2 (iOneOk_c _ _ _ (ReO.of (Hid.out (by assumption)) (by ((try simp only [ext_drew]); (try simp only [ext_ext]); repeat (first | exact Ext.refl _ | with_reducible apply Ext.add | with_reducible apply Ext.dr | apply Ext.alloc | apply Ext.ext | apply Ext.drew | refine Ext.trans ?_ (by assumption))))) (Hid.out (by assumption)))))); (try rw [h1]); (try rw [h2]); (try rw [h3]); (try rw [h4]); (try rw [p1]); (try rw [p2]); (try rw [p3]); (try rw [p4]); (try rw [r1]); (try rw [r2]); (try rw [r3]); (try rw [r4]); (try rw [r5]); (try rw [r6]); (try rw [q3]); (try rw [q4]); (try rw [hp]); (try rw [hq]); go_big_quiet_on)))
          refine wpQuiet_nil ?_
          rintro _ ⟨tq, rfl⟩))
    refine bodyPost_ret (v := .agg #[.int .i64 0, .int .i64 0, .slice none 0 0, .slice none 0 0, .slice none 0 0]) (by simp [results, Try.results23, go_sem]) rfl ?_
    rw [show odV o cell side n = oneZ by rw [odV, E.out]; rfl]
    exact made_oneZ (by ((try simp only [ext_drew]); (try simp only [ext_ext]); repeat (first | exact Ext.refl _ | with_reducible apply Ext.add | with_reducible apply Ext.dr | apply Ext.alloc | apply Ext.ext | apply Ext.drew | refine Ext.trans ?_ (by assumption))))
  | true =>
    obtain ⟨f1, f2, f3, f4⟩ := oneOk_facts hok
    have HF2 := hid f2
    have HF3 := hid f3
    have HF4 := hid f4
    have hc1 := (plcOk_iff.1 f1).1.1
    have hc2 := (plcOk_iff.1 f1).1.2
    clear f2 f3 f4
    go_enter Try.func23, Try.ntmps23
    try go_wp2_with (first
        | (go_at_call 43; refine (iOneOk_c _ _ _ (ReO.of (Hid.out (by assumption)) (by ((try simp only [ext_drew]); (try simp only [ext_ext]); repeat (first | exact Ext.refl _ | with_reducible apply Ext.add | with_reducible apply Ext.dr | apply Ext.alloc | apply Ext.ext | apply Ext.drew | refine Ext.trans ?_ (by assumption))))) (Hid.out (by assumption))).mono ?_; rintro e w' ⟨rfl, t, rfl⟩) | (go_at_call 44; (with_reducible refine (iOneCopy_c o h _ (ReO.of HX.out (by ((try simp only [ext_drew]); (try simp only [ext_ext]); repeat (first | exact Ext.refl _ | with_reducible apply Ext.add | with_reducible apply Ext.dr | apply Ext.alloc | apply Ext.ext | apply Ext.drew | refine Ext.trans ?_ (by assumption))))) HBD.out).mono ?_); rintro e w' ⟨⟨p1, q1, p2, q2, p3, q3⟩, rfl, ⟨t0, rfl⟩, ho⟩; have O := hid ho; clear ho)
        | (
          with_reducible refine wp_region_mix (by kernel_rfl) (by decide +kernel) ?_
          repeat (first
            | (refine mix_pure rfl ?_; (first | go_big_quiet_skip | (go_big_quiet_want; go_big_quiet_op; go_big_quiet_on)); refine wpQuiet_nil ?_)
            | (refine mix_skip (by rfl) ?_; (try simp only [Act.put, List.setIfInBounds_toArray, List.set_cons_zero, List.set_cons_succ]))
            | (refine mix_mk rfl (by rfl) (fun K hK => ?_); (first | (go_simp; first | (go_at_call 43; refine (iOneOk_c _ _ _ (ReO.of (Hid.out (by assumption)) (by ((try simp only [ext_drew]); (try simp only [ext_ext]); repeat (first | exact Ext.refl _ | with_reducible apply Ext.add | with_reducible apply Ext.dr | apply Ext.alloc | apply Ext.ext | apply Ext.drew | refine Ext.trans ?_ (by assumption))))) (Hid.out (by assumption))).mono ?_; rintro e w' ⟨rfl, t, rfl⟩) | (go_at_call 44; (with_reducible refine (iOneCopy_c o h _ (ReO.of HX.out (by ((try simp only [ext_drew]); (try simp only [ext_ext]); repeat (first | exact Ext.refl _ | with_reducible apply Ext.add | with_reducible apply Ext.dr | apply Ext.alloc | apply Ext.ext | apply Ext.drew | refine Ext.trans ?_ (by assumption))))) HBD.out).mono ?_); rintro e w' ⟨⟨p1, q1, p2, q2, p3, q3⟩, rfl, ⟨t0, rfl⟩, ho⟩; have O := hid ho; clear ho) | skip)); (show K _ _); refine hK _ _ (show Ext _ _ from (by ((try simp only [ext_drew]); (try simp only [ext_ext]); repeat (first | exact Ext.refl _ | with_reducible apply Ext.add | with_reducible apply Ext.dr | apply Ext.alloc | apply Ext.ext | apply Ext.drew | refine Ext.trans ?_ (by assumption))))) ?_; clear hK K; (try simp only [Act.put, List.setIfInBounds_toArray, List.set_cons_zero, List.set_cons_succ])))
          refine mix_nil ?_)
        | (
          with_reducible refine wp_region_ext (by kernel_rfl) (by kernel_rfl) ?_
          repeat (first | go_big_quiet_skip | (go_big_quiet_want; go_big_quiet_op; first | go_big_quiet_on | (apply Exists.intro; refine ⟨fun _ => ?_, ?_⟩; ((first | (go_at_call 43; first | exact quiet_call (iOneOk_c _ _ _ (ReO.of (Hid.out (by assumption)) (by ((try simp only [ext_drew]); (try simp only [ext_ext]); repeat (first | exact Ext.refl _ | with_reducible apply Ext.add | with_reducible apply Ext.dr | apply Ext.alloc | apply Ext.ext | apply Ext.drew | refine Ext.trans ?_ (by assumption))))) (Hid.out (by assumption))) | exact quiet_call2 (iOneOk_c _ _ _ (ReO.of (Hid.out (by assumption)) (by ((try simp only [ext_drew]); (try simp only [ext_ext]); repeat (first | exact Ext.refl _ | with_reducible apply Ext.add | with_reducible apply Ext.dr | apply Ext.alloc | apply Ext.ext | apply Ext.drew | refine Ext.trans ?_ (by assumption))))) (Hid.out (by assumption)))))); (try rw [h1]); (try rw [h2]); (try rw [h3]); (try rw [h4]); (try rw [p1]); (try rw [p2]); (try rw [p3]); (try rw [p4]); (try rw [r1]); (try rw [r2]); (try rw [r3]); (try rw [r4]); (try rw [r5]); (try rw [r6]); (try rw [q3]); (try rw [q4]); (try rw [hp]); (try rw [hq]); go_big_quiet_on)))
          refine wpQuiet_nil ?_
          rintro _ ⟨tq, rfl⟩))
    refine calls_gen fun X hX => ?_
    have cM0 : X.cell? ⟨w.heap.size, 0, none⟩ = some (.int .i64 o.map.c) := by rw [hX]; simp [go_sem]
    have cM1 : X.cell? ⟨w.heap.size, 1, none⟩ = some (.int .i64 o.map.w) := by rw [hX]; simp [go_sem]
    generalize hn1 : o.wk.length = n1 at *
    have HN1 := hid hn1
    generalize hT : w.heap.size + 1 + 1 + (t.add t0).bs.size = T
    have EX : Ext w X := by rw [hX]; ((try simp only [ext_drew]); (try simp only [ext_ext]); repeat (first | exact Ext.refl _ | with_reducible apply Ext.add | with_reducible apply Ext.dr | apply Ext.alloc | apply Ext.ext | apply Ext.drew | refine Ext.trans ?_ (by assumption)))
    have AW := OwnR.of O.out (w' := X) (by rw [hX]; ((try simp only [ext_drew]); (try simp only [ext_ext]); repeat (first | exact Ext.refl _ | with_reducible apply Ext.add | with_reducible apply Ext.dr | apply Ext.alloc | apply Ext.ext | apply Ext.drew | refine Ext.trans ?_ (by assumption))))
    have hlo : w.heap.size + 2 ≤ (ext ((w.alloc (Obj.cells #[.int .i64 o.map.c, .int .i64 o.map.w, .slice h.a1 n1 h.c1, .slice h.a2 o.ground.length h.c2, .slice h.a3 o.air.length h.c3] 44)).alloc (Obj.cells #[.int .i64 0, .int .i64 0, .slice none 0 0, .slice none 0 0, .slice none 0 0] 44)) t).heap.size := (by (try simp [go_sem]) <;> (try simp [Xt.add]) <;> omega)
    have hhi : (ext (ext ((w.alloc (Obj.cells #[.int .i64 o.map.c, .int .i64 o.map.w, .slice h.a1 n1 h.c1, .slice h.a2 o.ground.length h.c2, .slice h.a3 o.air.length h.c3] 44)).alloc (Obj.cells #[.int .i64 0, .int .i64 0, .slice none 0 0, .slice none 0 0, .slice none 0 0] 44)) t) t0).heap.size ≤ T := by rw [← hT]; ((try simp [go_sem]) <;> (try simp [Xt.add]) <;> omega)
    obtain ⟨_, B, hnd, hr, ho⟩ := AW
    have hr' : ∀ b ∈ B, w.heap.size + 2 ≤ b ∧ b < T := fun b hb => by have := hr b hb; omega
    obtain ⟨B2, B3, B4, rfl, O2, O3, O4⟩ := own_one_split ho
    dsimp only at O2 O3 O4
    rw [HN1.out] at O2
    have bT : X.heap[T]? = some (.cells #[.int .i64 o.map.c, .int .i64 o.map.w, .slice p1 n1 q1, .slice p2 o.ground.length q2, .slice p3 o.air.length q3] 44 (0, 0)) := by rw [hX]; exact alloc_last (by rw [← hT]; simp [go_sem])
    have bR : X.heap[w.heap.size + 1]? = some (.cells #[.int .i64 0, .int .i64 0, .slice none 0 0, .slice none 0 0, .slice none 0 0] 44 (0, 0)) := by rw [hX]; exact blk_alloc (blk_ext (alloc_last (by simp)))
    have hTR : w.heap.size + 2 ≤ T := by omega
    have HEX := hid EX
    have HND := hid hnd
    have HRR := hid hr'
    have HO2 := hid O2
    have HO3 := hid O3
    have HO4 := hid O4
    have BT := hid bT
    have BR := hid bR
    have lT := lt_blk bT
    have lR := lt_blk bR
    clear hX hr hr' ho O2 O3 O4 O hlo hhi EX hnd hn1 bT bR hT
    have cT0 : X.cell? ⟨T, 0, none⟩ = some (.int .i64 o.map.c) := (cell_blk BT.out 0).trans rfl
    have cT1 : X.cell? ⟨T, 1, none⟩ = some (.int .i64 o.map.w) := (cell_blk BT.out 1).trans rfl
    have cT2 : X.cell? ⟨T, 2, none⟩ = some (.slice p1 n1 q1) := (cell_blk BT.out 2).trans rfl
    have cT3 : X.cell? ⟨T, 3, none⟩ = some (.slice p2 o.ground.length q2) := (cell_blk BT.out 3).trans rfl
    have cT4 : X.cell? ⟨T, 4, none⟩ = some (.slice p3 o.air.length q3) := (cell_blk BT.out 4).trans rfl
    have cR0 : X.cell? ⟨w.heap.size + 1, 0, none⟩ = some (.int .i64 0) := (cell_blk BR.out 0).trans rfl
    have cR1 : X.cell? ⟨w.heap.size + 1, 1, none⟩ = some (.int .i64 0) := (cell_blk BR.out 1).trans rfl
    have cR2 : X.cell? ⟨w.heap.size + 1, 2, none⟩ = some (.slice none 0 0) := (cell_blk BR.out 2).trans rfl
    have cR3 : X.cell? ⟨w.heap.size + 1, 3, none⟩ = some (.slice none 0 0) := (cell_blk BR.out 3).trans rfl
    have cR4 : X.cell? ⟨w.heap.size + 1, 4, none⟩ = some (.slice none 0 0) := (cell_blk BR.out 4).trans rfl
    have zR0 := frozen_blk BR.out 0
    have zR1 := frozen_blk BR.out 1
    have zR2 := frozen_blk BR.out 2
    have zR3 := frozen_blk BR.out 3
    have zR4 := frozen_blk BR.out 4
    have lM : w.heap.size < X.heap.size := by omega
    cases r1 : inB cell 0 (o.map.c - 1) with
    | false =>
      have ES := hid (show odV o cell side n = o by rw [odV, hok, downB, r1]; rfl)
      try go_wp2_with (first
          | (go_at_call 53; refine (hasCell_ok _ (by assumption) _ _).mono ?_; rintro e w' ⟨rfl, t, rfl⟩) | (go_at_call 54; refine (isSide_c _ _).mono ?_; rintro e w' ⟨rfl, rfl⟩) | (go_at_call 55; refine (in_c _ _ _ _).mono ?_; rintro e w' ⟨rfl, rfl⟩)
          | (
            with_reducible refine wp_region_mix (by kernel_rfl) (by decide +kernel) ?_
            repeat (first
              | (refine mix_pure rfl ?_; (first | go_big_quiet_skip | (go_big_quiet_want; go_big_quiet_op; go_big_quiet_on)); refine wpQuiet_nil ?_)
              | (refine mix_skip (by rfl) ?_; (try simp only [Act.put, List.setIfInBounds_toArray, List.set_cons_zero, List.set_cons_succ]))
              | (refine mix_mk rfl (by rfl) (fun K hK => ?_); (first | (go_simp; first | (go_at_call 53; refine (hasCell_ok _ (by assumption) _ _).mono ?_; rintro e w' ⟨rfl, t, rfl⟩) | (go_at_call 54; refine (isSide_c _ _).mono ?_; rintro e w' ⟨rfl, rfl⟩) | (go_at_call 55; refine (in_c _ _ _ _).mono ?_; rintro e w' ⟨rfl, rfl⟩) | skip)); (show K _ _); refine hK _ _ (show Ext _ _ from (by ((try simp only [ext_drew]); (try simp only [ext_ext]); repeat (first | exact Ext.refl _ | with_reducible apply Ext.add | with_reducible apply Ext.dr | apply Ext.alloc | apply Ext.ext | apply Ext.drew | refine Ext.trans ?_ (by assumption))))) ?_; clear hK K; (try simp only [Act.put, List.setIfInBounds_toArray, List.set_cons_zero, List.set_cons_succ])))
            refine mix_nil ?_)
          | (
            with_reducible refine wp_region_ext (by kernel_rfl) (by kernel_rfl) ?_
            repeat (first | go_big_quiet_skip | (go_big_quiet_want; go_big_quiet_op; first | go_big_quiet_on | (apply Exists.intro; refine ⟨fun _ => ?_, ?_⟩; ((first | (go_at_call 53; first | exact quiet_call (hasCell_ok _ (by assumption) _ _) | exact quiet_call2 (hasCell_ok _ (by assumption) _ _)) | (go_at_call 54; first | exact quiet_same (isSide_c _ _) | exact quiet_same2 (isSide_c _ _)) | (go_at_call 55; first | exact quiet_same (in_c _ _ _ _) | exact quiet_same2 (in_c _ _ _ _)))); (try rw [h1]); (try rw [h2]); (try rw [h3]); (try rw [h4]); (try rw [p1]); (try rw [p2]); (try rw [p3]); (try rw [p4]); (try rw [r1]); (try rw [r2]); (try rw [r3]); (try rw [r4]); (try rw [r5]); (try rw [r6]); (try rw [q3]); (try rw [q4]); (try rw [hp]); (try rw [hq]); go_big_quiet_on)))
            refine wpQuiet_nil ?_
            rintro _ ⟨tq, rfl⟩))
      refine bodyPost_ret (v := .agg #[.int .i64 o.map.c, .int .i64 o.map.w, .slice p1 n1 q1, .slice p2 o.ground.length q2, .slice p3 o.air.length q3]) (by simp [results, Try.results23, go_sem, cT0, cT1, cT2, cT3, cT4, cR0, cR1, cR2, cR3, cR4, lT, lR]) rfl ?_
      rw [ES.out]
      exact one_same HEX.out (by repeat (first | with_reducible exact Chg.refl _ _ | with_reducible apply Chg.drew | with_reducible apply Chg.drewl | with_reducible refine Chg.turn (by simp) | with_reducible refine Chg.both ?_ (by simp) | (with_reducible refine Chg.set ?_ (by simp) _) | with_reducible apply Chg.alloc | with_reducible apply Chg.ext)) HN1.out HO2.out HO3.out HO4.out HND.out HRR.out lT
    | true =>
      obtain ⟨j, rfl⟩ : ∃ j : Nat, cell = (j : Int) := ⟨cell.toNat, by have := inB_iff.1 r1; omega⟩
      have hj3 : j < o.ground.length := by have := inB_iff.1 r1; have := HF2.out; omega
      have hj4 : j < o.air.length := by have := inB_iff.1 r1; have := HF3.out; omega
      cases r2 : inB side 0 1 with
      | false =>
        have ES := hid (show odV o (j : Int) side n = o by rw [odV, hok, downB, r1, r2]; rfl)
        try go_wp2_with (first
            | (go_at_call 53; refine (hasCell_ok _ (by assumption) _ _).mono ?_; rintro e w' ⟨rfl, t, rfl⟩) | (go_at_call 54; refine (isSide_c _ _).mono ?_; rintro e w' ⟨rfl, rfl⟩) | (go_at_call 55; refine (in_c _ _ _ _).mono ?_; rintro e w' ⟨rfl, rfl⟩)
            | (
              with_reducible refine wp_region_mix (by kernel_rfl) (by decide +kernel) ?_
              repeat (first
                | (refine mix_pure rfl ?_; (first | go_big_quiet_skip | (go_big_quiet_want; go_big_quiet_op; go_big_quiet_on)); refine wpQuiet_nil ?_)
                | (refine mix_skip (by rfl) ?_; (try simp only [Act.put, List.setIfInBounds_toArray, List.set_cons_zero, List.set_cons_succ]))
                | (refine mix_mk rfl (by rfl) (fun K hK => ?_); (first | (go_simp; first | (go_at_call 53; refine (hasCell_ok _ (by assumption) _ _).mono ?_; rintro e w' ⟨rfl, t, rfl⟩) | (go_at_call 54; refine (isSide_c _ _).mono ?_; rintro e w' ⟨rfl, rfl⟩) | (go_at_call 55; refine (in_c _ _ _ _).mono ?_; rintro e w' ⟨rfl, rfl⟩) | skip)); (show K _ _); refine hK _ _ (show Ext _ _ from (by ((try simp only [ext_drew]); (try simp only [ext_ext]); repeat (first | exact Ext.refl _ | with_reducible apply Ext.add | with_reducible apply Ext.dr | apply Ext.alloc | apply Ext.ext | apply Ext.drew | refine Ext.trans ?_ (by assumption))))) ?_; clear hK K; (try simp only [Act.put, List.setIfInBounds_toArray, List.set_cons_zero, List.set_cons_succ])))
              refine mix_nil ?_)
            | (
              with_reducible refine wp_region_ext (by kernel_rfl) (by kernel_rfl) ?_
              repeat (first | go_big_quiet_skip | (go_big_quiet_want; go_big_quiet_op; first | go_big_quiet_on | (apply Exists.intro; refine ⟨fun _ => ?_, ?_⟩; ((first | (go_at_call 53; first | exact quiet_call (hasCell_ok _ (by assumption) _ _) | exact quiet_call2 (hasCell_ok _ (by assumption) _ _)) | (go_at_call 54; first | exact quiet_same (isSide_c _ _) | exact quiet_same2 (isSide_c _ _)) | (go_at_call 55; first | exact quiet_same (in_c _ _ _ _) | exact quiet_same2 (in_c _ _ _ _)))); (try rw [h1]); (try rw [h2]); (try rw [h3]); (try rw [h4]); (try rw [p1]); (try rw [p2]); (try rw [p3]); (try rw [p4]); (try rw [r1]); (try rw [r2]); (try rw [r3]); (try rw [r4]); (try rw [r5]); (try rw [r6]); (try rw [q3]); (try rw [q4]); (try rw [hp]); (try rw [hq]); go_big_quiet_on)))
              refine wpQuiet_nil ?_
              rintro _ ⟨tq, rfl⟩))
        refine bodyPost_ret (v := .agg #[.int .i64 o.map.c, .int .i64 o.map.w, .slice p1 n1 q1, .slice p2 o.ground.length q2, .slice p3 o.air.length q3]) (by simp [results, Try.results23, go_sem, cT0, cT1, cT2, cT3, cT4, cR0, cR1, cR2, cR3, cR4, lT, lR]) rfl ?_
        rw [ES.out]
        exact one_same HEX.out (by repeat (first | with_reducible exact Chg.refl _ _ | with_reducible apply Chg.drew | with_reducible apply Chg.drewl | with_reducible refine Chg.turn (by simp) | with_reducible refine Chg.both ?_ (by simp) | (with_reducible refine Chg.set ?_ (by simp) _) | with_reducible apply Chg.alloc | with_reducible apply Chg.ext)) HN1.out HO2.out HO3.out HO4.out HND.out HRR.out lT
      | true =>
        obtain ⟨s, rfl⟩ : ∃ s : Nat, side = (s : Int) := ⟨side.toNat, by have := inB_iff.1 r2; omega⟩
        have hs2 : s < 2 := by have := inB_iff.1 r2; omega
        obtain ⟨b3, arr3, T3, g, rfl, rfl, hl3, hg3, hb3, e3, z3, upd3⟩ := own_at_Int HO3.out hj3
        have hnd4 : B4.Nodup := (List.nodup_append.1 (List.nodup_append.1 HND.out).2.1).2.1
        have hxs : o.air[j]? = some o.air[j] := List.getElem?_eq_getElem hj4
        generalize hxe : o.air[j] = xs at hxs
        clear hxe
        obtain ⟨b4, arr4, T4, B5, v5, rfl, hl4, hb4, hv5, O5, hnd5, hsub5, upd4⟩ := own_sl_at (k := j) (x := ldat Dat.i xs) HO4.out hnd4 (by rw [List.getElem?_map, hxs]; rfl)
        have hr4 : ∀ b ∈ B4, w.heap.size + 2 ≤ b ∧ b < T := fun b hb => HRR.out b (by simp [hb])
        obtain ⟨k1, k2, k3, k4⟩ := HF4.out j g xs hg3 hxs
        obtain ⟨a5, c5, e5⟩ : ∃ a c, v5 = .slice a 2 c := by
          obtain ⟨a, c, h⟩ := (O5.re (fun b hb => by have := hr4 b (hsub5 b hb); omega)).slice
          rw [List.length_map, k3] at h
          exact ⟨a, c, (List.cons.inj h).1⟩
        subst e5
        obtain ⟨b5, arr5, T5, x, rfl, rfl, hl5, hx5, hb5, e5, z5, upd5⟩ := own_at_Int O5 hs2
        have kx := k4 x (List.mem_of_getElem? hx5)
        have kx1 := kx.1
        have kx2 := kx.2
        have m3 := HRR.out b3 (by simp)
        have m5 := hr4 b5 (hsub5 b5 (by simp))
        have c4 : X.cell? ⟨b4, j, none⟩ = some (.slice (some ⟨b5, 0, none⟩) 2 c5) := (cell_blk hb4 j).trans hv5
        have l4 := lt_blk hb4
        have l3 := lt_blk hb3
        have l5 := lt_blk hb5
        have eX : airX o (j : Int) (s : Int) = x := by rw [airX, airR, Int.toNat_natCast, Int.toNat_natCast, hxs]; simp [hx5]
        have eR : airR o (j : Int) = xs := by rw [airR, Int.toNat_natCast, hxs]; rfl
        have eG : grX o (j : Int) = g := by rw [grX, Int.toNat_natCast, hg3]; rfl
        have HEX1 := hid eX
        have HER := hid eR
        have HEG := hid eG
        have HU3 := hid upd3
        have HU4 := hid upd4
        have HU5 := hid upd5
        have HB3 := hid hb3
        have HB5 := hid hb5
        have HS5 := hid hsub5
        have HR4 := hid hr4
        clear upd3 upd4 upd5 hb3 hb4 hb5 hv5 hg3 hxs hx5 kx eX eR eG hl3 hl4 hl5 hsub5 hr4 O5 hnd5 hnd4 k3 k4
        cases r3 : inB n 1 x with
        | false =>
          have ES := hid (show odV o (j : Int) (s : Int) n = o by rw [odV, hok, downB, HEX1.out, r1, r2, r3]; rfl)
          try go_wp2_with (first
              | (go_at_call 53; refine (hasCell_ok _ (by assumption) _ _).mono ?_; rintro e w' ⟨rfl, t, rfl⟩) | (go_at_call 54; refine (isSide_c _ _).mono ?_; rintro e w' ⟨rfl, rfl⟩) | (go_at_call 55; refine (in_c _ _ _ _).mono ?_; rintro e w' ⟨rfl, rfl⟩)
              | (
                with_reducible refine wp_region_mix (by kernel_rfl) (by decide +kernel) ?_
                repeat (first
                  | (refine mix_pure rfl ?_; (first | go_big_quiet_skip | (go_big_quiet_want; go_big_quiet_op; go_big_quiet_on)); refine wpQuiet_nil ?_)
                  | (refine mix_skip (by rfl) ?_; (try simp only [Act.put, List.setIfInBounds_toArray, List.set_cons_zero, List.set_cons_succ]))
                  | (refine mix_mk rfl (by rfl) (fun K hK => ?_); (first | (go_simp; first | (go_at_call 53; refine (hasCell_ok _ (by assumption) _ _).mono ?_; rintro e w' ⟨rfl, t, rfl⟩) | (go_at_call 54; refine (isSide_c _ _).mono ?_; rintro e w' ⟨rfl, rfl⟩) | (go_at_call 55; refine (in_c _ _ _ _).mono ?_; rintro e w' ⟨rfl, rfl⟩) | skip)); (show K _ _); refine hK _ _ (show Ext _ _ from (by ((try simp only [ext_drew]); (try simp only [ext_ext]); repeat (first | exact Ext.refl _ | with_reducible apply Ext.add | with_reducible apply Ext.dr | apply Ext.alloc | apply Ext.ext | apply Ext.drew | refine Ext.trans ?_ (by assumption))))) ?_; clear hK K; (try simp only [Act.put, List.setIfInBounds_toArray, List.set_cons_zero, List.set_cons_succ])))
                refine mix_nil ?_)
              | (
                with_reducible refine wp_region_ext (by kernel_rfl) (by kernel_rfl) ?_
                repeat (first | go_big_quiet_skip | (go_big_quiet_want; go_big_quiet_op; first | go_big_quiet_on | (apply Exists.intro; refine ⟨fun _ => ?_, ?_⟩; ((first | (go_at_call 53; first | exact quiet_call (hasCell_ok _ (by assumption) _ _) | exact quiet_call2 (hasCell_ok _ (by assumption) _ _)) | (go_at_call 54; first | exact quiet_same (isSide_c _ _) | exact quiet_same2 (isSide_c _ _)) | (go_at_call 55; first | exact quiet_same (in_c _ _ _ _) | exact quiet_same2 (in_c _ _ _ _)))); (try rw [h1]); (try rw [h2]); (try rw [h3]); (try rw [h4]); (try rw [p1]); (try rw [p2]); (try rw [p3]); (try rw [p4]); (try rw [r1]); (try rw [r2]); (try rw [r3]); (try rw [r4]); (try rw [r5]); (try rw [r6]); (try rw [q3]); (try rw [q4]); (try rw [hp]); (try rw [hq]); go_big_quiet_on)))
                refine wpQuiet_nil ?_
                rintro _ ⟨tq, rfl⟩))
          refine bodyPost_ret (v := .agg #[.int .i64 o.map.c, .int .i64 o.map.w, .slice p1 n1 q1, .slice (some ⟨b3, 0, none⟩) o.ground.length q2, .slice (some ⟨b4, 0, none⟩) o.air.length q3]) (by simp [results, Try.results23, go_sem, cT0, cT1, cT2, cT3, cT4, cR0, cR1, cR2, cR3, cR4, lT, lR]) rfl ?_
          rw [ES.out]
          exact one_same HEX.out (by repeat (first | with_reducible exact Chg.refl _ _ | with_reducible apply Chg.drew | with_reducible apply Chg.drewl | with_reducible refine Chg.turn (by simp) | with_reducible refine Chg.both ?_ (by simp) | (with_reducible refine Chg.set ?_ (by simp) _) | with_reducible apply Chg.alloc | with_reducible apply Chg.ext)) HN1.out HO2.out HO3.out HO4.out HND.out HRR.out lT
        | true =>
          have kn := inB_iff.1 r3
          have kn1 := kn.1
          have kn2 := kn.2
          clear kn
          by_cases r4 : g + n ≤ 900
          · have ES := hid (show odV o (j : Int) (s : Int) n = ⟨o.map, o.wk, o.ground.set j (g + n), o.air.set j (xs.set s (x - n))⟩ by rw [odV, hok, downB, downV, HEX1.out, HEG.out, HER.out, r1, r2, r3, decide_eq_true r4]; rfl)
            have n53 : b5 ≠ b3 := fun e => by
              have := (List.nodup_append.1 (List.nodup_append.1 HND.out).2.1).2.2 b3 (by simp) b5 (HS5.out b5 (by simp))
              exact this e.symm
            have n35 : b3 ≠ b5 := Ne.symm n53
            have n5T : b5 ≠ T := by omega
            have nT5 : T ≠ b5 := by omega
            have n3T : b3 ≠ T := by omega
            have nT3 : T ≠ b3 := by omega
            have n5R : b5 ≠ w.heap.size + 1 := by omega
            have nR5 : w.heap.size + 1 ≠ b5 := by omega
            have n3R : b3 ≠ w.heap.size + 1 := by omega
            have nR3 : w.heap.size + 1 ≠ b3 := by omega
            have n4R : b4 ≠ w.heap.size + 1 := ne_zero_cells BR.out c4
            have nR4 : w.heap.size + 1 ≠ b4 := Ne.symm n4R
            have nTR : T ≠ w.heap.size + 1 := by omega
            have nRT : w.heap.size + 1 ≠ T := by omega
            try go_wp2_with (first
                | (go_at_call 53; refine (hasCell_ok _ (by assumption) _ _).mono ?_; rintro e w' ⟨rfl, t, rfl⟩) | (go_at_call 54; refine (isSide_c _ _).mono ?_; rintro e w' ⟨rfl, rfl⟩) | (go_at_call 55; refine (in_c _ _ _ _).mono ?_; rintro e w' ⟨rfl, rfl⟩)
                | (
                  with_reducible refine wp_region_mix (by kernel_rfl) (by decide +kernel) ?_
                  repeat (first
                    | (refine mix_pure rfl ?_; (first | go_big_quiet_skip | (go_big_quiet_want; go_big_quiet_op; go_big_quiet_on)); refine wpQuiet_nil ?_)
                    | (refine mix_skip (by rfl) ?_; (try simp only [Act.put, List.setIfInBounds_toArray, List.set_cons_zero, List.set_cons_succ]))
                    | (refine mix_mk rfl (by rfl) (fun K hK => ?_); (first | (go_simp; first | (go_at_call 53; refine (hasCell_ok _ (by assumption) _ _).mono ?_; rintro e w' ⟨rfl, t, rfl⟩) | (go_at_call 54; refine (isSide_c _ _).mono ?_; rintro e w' ⟨rfl, rfl⟩) | (go_at_call 55; refine (in_c _ _ _ _).mono ?_; rintro e w' ⟨rfl, rfl⟩) | skip)); (show K _ _); refine hK _ _ (show Ext _ _ from (by ((try simp only [ext_drew]); (try simp only [ext_ext]); repeat (first | exact Ext.refl _ | with_reducible apply Ext.add | with_reducible apply Ext.dr | apply Ext.alloc | apply Ext.ext | apply Ext.drew | refine Ext.trans ?_ (by assumption))))) ?_; clear hK K; (try simp only [Act.put, List.setIfInBounds_toArray, List.set_cons_zero, List.set_cons_succ])))
                  refine mix_nil ?_)
                | (
                  with_reducible refine wp_region_ext (by kernel_rfl) (by kernel_rfl) ?_
                  repeat (first | go_big_quiet_skip | (go_big_quiet_want; go_big_quiet_op; first | go_big_quiet_on | (apply Exists.intro; refine ⟨fun _ => ?_, ?_⟩; ((first | (go_at_call 53; first | exact quiet_call (hasCell_ok _ (by assumption) _ _) | exact quiet_call2 (hasCell_ok _ (by assumption) _ _)) | (go_at_call 54; first | exact quiet_same (isSide_c _ _) | exact quiet_same2 (isSide_c _ _)) | (go_at_call 55; first | exact quiet_same (in_c _ _ _ _) | exact quiet_same2 (in_c _ _ _ _)))); (try rw [h1]); (try rw [h2]); (try rw [h3]); (try rw [h4]); (try rw [p1]); (try rw [p2]); (try rw [p3]); (try rw [p4]); (try rw [r1]); (try rw [r2]); (try rw [r3]); (try rw [r4]); (try rw [r5]); (try rw [r6]); (try rw [q3]); (try rw [q4]); (try rw [hp]); (try rw [hq]); go_big_quiet_on)))
                  refine wpQuiet_nil ?_
                  rintro _ ⟨tq, rfl⟩))
            skip
            refine bodyPost_ret (v := .agg #[.int .i64 o.map.c, .int .i64 o.map.w, .slice p1 n1 q1, .slice (some ⟨b3, 0, none⟩) o.ground.length q2, .slice (some ⟨b4, 0, none⟩) o.air.length q3]) (by simp [results, Try.results23, go_sem, cT0, cT1, cT2, cT3, cT4, cR0, cR1, cR2, cR3, cR4, lT, lR, n5T, nT5, n3T, nT3, n5R, nR5, n3R, nR3]) rfl ?_
            rw [ES.out]
            have HND1 := HND.out
            have i5 : b5 ∈ B4 := HS5.out b5 (by simp)
            have hC : ∀ c ∈ [b5, b3, w.heap.size + 1], w.heap.size ≤ c := fun c hc => by simp only [List.mem_cons, List.not_mem_nil, or_false] at hc; omega
            have hk2 : ∀ c, c ∈ B2 → c < X.heap.size ∧ c ∉ [b5, b3, w.heap.size + 1] := fun c hc => by
              have h1 := HRR.out c (by simp [hc])
              have h2 := (List.nodup_append.1 HND1).2.2 c hc b3 (by simp)
              have h3 := (List.nodup_append.1 HND1).2.2 c hc b5 (by simp [i5])
              refine ⟨by omega, ?_⟩
              simp only [List.mem_cons, List.not_mem_nil, or_false, not_or]
              omega
            have hk4 : ∀ c, c ∈ B4 → c < X.heap.size ∧ c ≠ b3 ∧ c ≠ w.heap.size + 1 := fun c hc => by
              have h1 := HR4.out c hc
              have h2 := (List.nodup_append.1 (List.nodup_append.1 HND1).2.1).2.2 b3 (by simp) c hc
              refine ⟨by omega, fun e => h2 e.symm, by omega⟩
            have hlt4 : ∀ z ∈ B4, z < X.heap.size := fun c hc => (hk4 c hc).1
            have hds : ((o.air.map (ldat Dat.i)).set j (ldat Dat.i (xs.set s (x - n)))) = (o.air.set j (xs.set s (x - n))).map (ldat Dat.i) := by rw [List.map_set]
            have h5 := HU5.out (X.setCell ⟨b5, s, none⟩ (.int .i64 (x - n))) (x - n) (blk_set HB5.out)
            have hU := HU4.out (X.setCell ⟨b5, s, none⟩ (.int .i64 (x - n))) (ldat Dat.i (xs.set s (x - n)))
            rw [hds] at hU
            refine made_one HEX.out (C := [b5, b3, w.heap.size + 1]) (by repeat (first | with_reducible exact Chg.refl _ _ | with_reducible apply Chg.drew | with_reducible apply Chg.drewl | with_reducible refine Chg.turn (by simp) | with_reducible refine Chg.both ?_ (by simp) | (with_reducible refine Chg.set ?_ (by simp) _) | with_reducible apply Chg.alloc | with_reducible apply Chg.ext)) hC HN1.out (by rw [List.length_set]) (by rw [List.length_set]) (own_keep HO2.out (C := [b5, b3, w.heap.size + 1]) (by repeat (first | with_reducible exact Chg.refl _ _ | with_reducible apply Chg.drew | with_reducible apply Chg.drewl | with_reducible refine Chg.turn (by simp) | with_reducible refine Chg.both ?_ (by simp) | (with_reducible refine Chg.set ?_ (by simp) _) | with_reducible apply Chg.alloc | with_reducible apply Chg.ext)) hk2) (HU3.out _ (g + n) (by repeat (first | with_reducible exact HB3.out | with_reducible apply blk_drew | with_reducible refine blk_set ?_ | (with_reducible refine blk_other ?_ (by first | assumption | omega)) | with_reducible refine blk_ext ?_ | with_reducible refine blk_alloc ?_))) ?_ HND1 (fun c hc => by have := HRR.out c hc; omega)
            exact down_own4 HB5.out (by repeat (first | with_reducible exact HB5.out | with_reducible apply blk_drew | with_reducible refine blk_set ?_ | (with_reducible refine blk_other ?_ (by first | assumption | omega)) | with_reducible refine blk_ext ?_ | with_reducible refine blk_alloc ?_)) (R := w.heap.size + 1) (b3 := b3) (by repeat (first | with_reducible exact Chg.refl _ _ | with_reducible apply Chg.drew | with_reducible apply Chg.drewl | with_reducible refine Chg.turn (by simp) | with_reducible refine Chg.both ?_ (by simp) | (with_reducible refine Chg.set ?_ (by simp) _) | with_reducible apply Chg.alloc | with_reducible apply Chg.ext)) (fun h c => hU h c hlt4) h5 hk4
          · have ES := hid (show odV o (j : Int) (s : Int) n = o by rw [odV, hok, downB, HEX1.out, HEG.out, r1, r2, r3, decide_eq_false r4]; rfl)
            try go_wp2_with (first
                | (go_at_call 53; refine (hasCell_ok _ (by assumption) _ _).mono ?_; rintro e w' ⟨rfl, t, rfl⟩) | (go_at_call 54; refine (isSide_c _ _).mono ?_; rintro e w' ⟨rfl, rfl⟩) | (go_at_call 55; refine (in_c _ _ _ _).mono ?_; rintro e w' ⟨rfl, rfl⟩)
                | (
                  with_reducible refine wp_region_mix (by kernel_rfl) (by decide +kernel) ?_
                  repeat (first
                    | (refine mix_pure rfl ?_; (first | go_big_quiet_skip | (go_big_quiet_want; go_big_quiet_op; go_big_quiet_on)); refine wpQuiet_nil ?_)
                    | (refine mix_skip (by rfl) ?_; (try simp only [Act.put, List.setIfInBounds_toArray, List.set_cons_zero, List.set_cons_succ]))
                    | (refine mix_mk rfl (by rfl) (fun K hK => ?_); (first | (go_simp; first | (go_at_call 53; refine (hasCell_ok _ (by assumption) _ _).mono ?_; rintro e w' ⟨rfl, t, rfl⟩) | (go_at_call 54; refine (isSide_c _ _).mono ?_; rintro e w' ⟨rfl, rfl⟩) | (go_at_call 55; refine (in_c _ _ _ _).mono ?_; rintro e w' ⟨rfl, rfl⟩) | skip)); (show K _ _); refine hK _ _ (show Ext _ _ from (by ((try simp only [ext_drew]); (try simp only [ext_ext]); repeat (first | exact Ext.refl _ | with_reducible apply Ext.add | with_reducible apply Ext.dr | apply Ext.alloc | apply Ext.ext | apply Ext.drew | refine Ext.trans ?_ (by assumption))))) ?_; clear hK K; (try simp only [Act.put, List.setIfInBounds_toArray, List.set_cons_zero, List.set_cons_succ])))
                  refine mix_nil ?_)
                | (
                  with_reducible refine wp_region_ext (by kernel_rfl) (by kernel_rfl) ?_
                  repeat (first | go_big_quiet_skip | (go_big_quiet_want; go_big_quiet_op; first | go_big_quiet_on | (apply Exists.intro; refine ⟨fun _ => ?_, ?_⟩; ((first | (go_at_call 53; first | exact quiet_call (hasCell_ok _ (by assumption) _ _) | exact quiet_call2 (hasCell_ok _ (by assumption) _ _)) | (go_at_call 54; first | exact quiet_same (isSide_c _ _) | exact quiet_same2 (isSide_c _ _)) | (go_at_call 55; first | exact quiet_same (in_c _ _ _ _) | exact quiet_same2 (in_c _ _ _ _)))); (try rw [h1]); (try rw [h2]); (try rw [h3]); (try rw [h4]); (try rw [p1]); (try rw [p2]); (try rw [p3]); (try rw [p4]); (try rw [r1]); (try rw [r2]); (try rw [r3]); (try rw [r4]); (try rw [r5]); (try rw [r6]); (try rw [q3]); (try rw [q4]); (try rw [hp]); (try rw [hq]); go_big_quiet_on)))
                  refine wpQuiet_nil ?_
                  rintro _ ⟨tq, rfl⟩))
            refine bodyPost_ret (v := .agg #[.int .i64 o.map.c, .int .i64 o.map.w, .slice p1 n1 q1, .slice (some ⟨b3, 0, none⟩) o.ground.length q2, .slice (some ⟨b4, 0, none⟩) o.air.length q3]) (by simp [results, Try.results23, go_sem, cT0, cT1, cT2, cT3, cT4, cR0, cR1, cR2, cR3, cR4, lT, lR]) rfl ?_
            rw [ES.out]
            exact one_same HEX.out (by repeat (first | with_reducible exact Chg.refl _ _ | with_reducible apply Chg.drew | with_reducible apply Chg.drewl | with_reducible refine Chg.turn (by simp) | with_reducible refine Chg.both ?_ (by simp) | (with_reducible refine Chg.set ?_ (by simp) _) | with_reducible apply Chg.alloc | with_reducible apply Chg.ext)) HN1.out HO2.out HO3.out HO4.out HND.out HRR.out lT
set_option maxRecDepth 100000 in
set_option maxHeartbeats 4000000 in
theorem sOneDown_c (o : One) (h : OneH) (cell side n : Int) (w : World) (hx : ReO w o h) (hb : BdO o) :
    Calls Try.prog 22 #[.agg #[.int .i64 o.map.c, .int .i64 o.map.w, .slice h.a1 o.wk.length h.c1, .slice h.a2 o.ground.length h.c2, .slice h.a3 o.air.length h.c3], .int .i64 cell, .int .i64 side, .int .i64 n] w (MadeO w (odV o cell side n)) := by
  have HX := hid hx
  have HBD := hid hb
  have B1 := hb.b1
  clear hx hb
  cases hok : oneOk o with
  | false =>
    have E := hid hok
    go_enter Try.func22, Try.ntmps22
    try go_wp2_with (first
        | (go_at_call 39; refine (sOneOk_c _ _ _ (ReO.of (Hid.out (by assumption)) (by ((try simp only [ext_drew]); (try simp only [ext_ext]); repeat (first | exact Ext.refl _ | with_reducible apply Ext.add | with_reducible apply Ext.dr | apply Ext.alloc | apply Ext.ext | apply Ext.drew | refine Ext.trans ?_ (by assumption))))) (Hid.out (by assumption))).mono ?_; rintro e w' ⟨rfl, t, rfl⟩)
        | (
          with_reducible refine wp_region_mix (by kernel_rfl) (by decide +kernel) ?_
          repeat (first
            | (refine mix_pure rfl ?_; (first | go_big_quiet_skip | (go_big_quiet_want; go_big_quiet_op; go_big_quiet_on)); refine wpQuiet_nil ?_)
            | (refine mix_skip (by rfl) ?_; (try simp only [Act.put, List.setIfInBounds_toArray, List.set_cons_zero, List.set_cons_succ]))
            | (refine mix_mk rfl (by rfl) (fun K hK => ?_); (first | (go_simp; first | (go_at_call 39; refine (sOneOk_c _ _ _ (ReO.of (Hid.out (by assumption)) (by ((try simp only [ext_drew]); (try simp only [ext_ext]); repeat (first | exact Ext.refl _ | with_reducible apply Ext.add | with_reducible apply Ext.dr | apply Ext.alloc | apply Ext.ext | apply Ext.drew | refine Ext.trans ?_ (by assumption))))) (Hid.out (by assumption))).mono ?_; rintro e w' ⟨rfl, t, rfl⟩) | skip)); (show K _ _); refine hK _ _ (show Ext _ _ from (by ((try simp only [ext_drew]); (try simp only [ext_ext]); repeat (first | exact Ext.refl _ | with_reducible apply Ext.add | with_reducible apply Ext.dr | apply Ext.alloc | apply Ext.ext | apply Ext.drew | refine Ext.trans ?_ (by assumption))))) ?_; clear hK K; (try simp only [Act.put, List.setIfInBounds_toArray, List.set_cons_zero, List.set_cons_succ])))
          refine mix_nil ?_)
        | (
          with_reducible refine wp_region_ext (by kernel_rfl) (by kernel_rfl) ?_
          repeat (first | go_big_quiet_skip | (go_big_quiet_want; go_big_quiet_op; first | go_big_quiet_on | (apply Exists.intro; refine ⟨fun _ => ?_, ?_⟩; ((first | (go_at_call 39; first | exact quiet_call (sOneOk_c _ _ _ (ReO.of (Hid.out (by assumption)) (by ((try simp only [ext_drew]); (try simp only [ext_ext]); repeat (first | exact Ext.refl _ | with_reducible apply Ext.add | with_reducible apply Ext.dr | apply Ext.alloc | apply Ext.ext | apply Ext.drew | refine Ext.trans ?_ (by assumption))))) (Hid.out (by assumption))) | exact quiet_call2 (sOneOk_c _ _ _ (ReO.of (Hid.out (by assumption)) (by ((try simp only [ext_drew]); (try simp only [ext_ext]); repeat (first | exact Ext.refl _ | with_reducible apply Ext.add | with_reducible apply Ext.dr | apply Ext.alloc | apply Ext.ext | apply Ext.drew | refine Ext.trans ?_ (by assumption))))) (Hid.out (by assumption)))))); (try rw [h1]); (try rw [h2]); (try rw [h3]); (try rw [h4]); (try rw [p1]); (try rw [p2]); (try rw [p3]); (try rw [p4]); (try rw [r1]); (try rw [r2]); (try rw [r3]); (try rw [r4]); (try rw [r5]); (try rw [r6]); (try rw [q3]); (try rw [q4]); (try rw [hp]); (try rw [hq]); go_big_quiet_on)))
          refine wpQuiet_nil ?_
          rintro _ ⟨tq, rfl⟩))
    refine bodyPost_ret (v := .agg #[.int .i64 0, .int .i64 0, .slice none 0 0, .slice none 0 0, .slice none 0 0]) (by simp [results, Try.results22, go_sem]) rfl ?_
    rw [show odV o cell side n = oneZ by rw [odV, E.out]; rfl]
    exact made_oneZ (by ((try simp only [ext_drew]); (try simp only [ext_ext]); repeat (first | exact Ext.refl _ | with_reducible apply Ext.add | with_reducible apply Ext.dr | apply Ext.alloc | apply Ext.ext | apply Ext.drew | refine Ext.trans ?_ (by assumption))))
  | true =>
    obtain ⟨f1, f2, f3, f4⟩ := oneOk_facts hok
    have HF2 := hid f2
    have HF3 := hid f3
    have HF4 := hid f4
    have hc1 := (plcOk_iff.1 f1).1.1
    have hc2 := (plcOk_iff.1 f1).1.2
    clear f2 f3 f4
    go_enter Try.func22, Try.ntmps22
    try go_wp2_with (first
        | (go_at_call 39; refine (sOneOk_c _ _ _ (ReO.of (Hid.out (by assumption)) (by ((try simp only [ext_drew]); (try simp only [ext_ext]); repeat (first | exact Ext.refl _ | with_reducible apply Ext.add | with_reducible apply Ext.dr | apply Ext.alloc | apply Ext.ext | apply Ext.drew | refine Ext.trans ?_ (by assumption))))) (Hid.out (by assumption))).mono ?_; rintro e w' ⟨rfl, t, rfl⟩) | (go_at_call 40; (with_reducible refine (sOneCopy_c o h _ (ReO.of HX.out (by ((try simp only [ext_drew]); (try simp only [ext_ext]); repeat (first | exact Ext.refl _ | with_reducible apply Ext.add | with_reducible apply Ext.dr | apply Ext.alloc | apply Ext.ext | apply Ext.drew | refine Ext.trans ?_ (by assumption))))) HBD.out).mono ?_); rintro e w' ⟨⟨p1, q1, p2, q2, p3, q3⟩, rfl, ⟨t0, rfl⟩, ho⟩; have O := hid ho; clear ho)
        | (
          with_reducible refine wp_region_mix (by kernel_rfl) (by decide +kernel) ?_
          repeat (first
            | (refine mix_pure rfl ?_; (first | go_big_quiet_skip | (go_big_quiet_want; go_big_quiet_op; go_big_quiet_on)); refine wpQuiet_nil ?_)
            | (refine mix_skip (by rfl) ?_; (try simp only [Act.put, List.setIfInBounds_toArray, List.set_cons_zero, List.set_cons_succ]))
            | (refine mix_mk rfl (by rfl) (fun K hK => ?_); (first | (go_simp; first | (go_at_call 39; refine (sOneOk_c _ _ _ (ReO.of (Hid.out (by assumption)) (by ((try simp only [ext_drew]); (try simp only [ext_ext]); repeat (first | exact Ext.refl _ | with_reducible apply Ext.add | with_reducible apply Ext.dr | apply Ext.alloc | apply Ext.ext | apply Ext.drew | refine Ext.trans ?_ (by assumption))))) (Hid.out (by assumption))).mono ?_; rintro e w' ⟨rfl, t, rfl⟩) | (go_at_call 40; (with_reducible refine (sOneCopy_c o h _ (ReO.of HX.out (by ((try simp only [ext_drew]); (try simp only [ext_ext]); repeat (first | exact Ext.refl _ | with_reducible apply Ext.add | with_reducible apply Ext.dr | apply Ext.alloc | apply Ext.ext | apply Ext.drew | refine Ext.trans ?_ (by assumption))))) HBD.out).mono ?_); rintro e w' ⟨⟨p1, q1, p2, q2, p3, q3⟩, rfl, ⟨t0, rfl⟩, ho⟩; have O := hid ho; clear ho) | skip)); (show K _ _); refine hK _ _ (show Ext _ _ from (by ((try simp only [ext_drew]); (try simp only [ext_ext]); repeat (first | exact Ext.refl _ | with_reducible apply Ext.add | with_reducible apply Ext.dr | apply Ext.alloc | apply Ext.ext | apply Ext.drew | refine Ext.trans ?_ (by assumption))))) ?_; clear hK K; (try simp only [Act.put, List.setIfInBounds_toArray, List.set_cons_zero, List.set_cons_succ])))
          refine mix_nil ?_)
        | (
          with_reducible refine wp_region_ext (by kernel_rfl) (by kernel_rfl) ?_
          repeat (first | go_big_quiet_skip | (go_big_quiet_want; go_big_quiet_op; first | go_big_quiet_on | (apply Exists.intro; refine ⟨fun _ => ?_, ?_⟩; ((first | (go_at_call 39; first | exact quiet_call (sOneOk_c _ _ _ (ReO.of (Hid.out (by assumption)) (by ((try simp only [ext_drew]); (try simp only [ext_ext]); repeat (first | exact Ext.refl _ | with_reducible apply Ext.add | with_reducible apply Ext.dr | apply Ext.alloc | apply Ext.ext | apply Ext.drew | refine Ext.trans ?_ (by assumption))))) (Hid.out (by assumption))) | exact quiet_call2 (sOneOk_c _ _ _ (ReO.of (Hid.out (by assumption)) (by ((try simp only [ext_drew]); (try simp only [ext_ext]); repeat (first | exact Ext.refl _ | with_reducible apply Ext.add | with_reducible apply Ext.dr | apply Ext.alloc | apply Ext.ext | apply Ext.drew | refine Ext.trans ?_ (by assumption))))) (Hid.out (by assumption)))))); (try rw [h1]); (try rw [h2]); (try rw [h3]); (try rw [h4]); (try rw [p1]); (try rw [p2]); (try rw [p3]); (try rw [p4]); (try rw [r1]); (try rw [r2]); (try rw [r3]); (try rw [r4]); (try rw [r5]); (try rw [r6]); (try rw [q3]); (try rw [q4]); (try rw [hp]); (try rw [hq]); go_big_quiet_on)))
          refine wpQuiet_nil ?_
          rintro _ ⟨tq, rfl⟩))
    refine calls_gen fun X hX => ?_
    have cM0 : X.cell? ⟨w.heap.size, 0, none⟩ = some (.int .i64 o.map.c) := by rw [hX]; simp [go_sem]
    have cM1 : X.cell? ⟨w.heap.size, 1, none⟩ = some (.int .i64 o.map.w) := by rw [hX]; simp [go_sem]
    generalize hn1 : o.wk.length = n1 at *
    have HN1 := hid hn1
    generalize hT : w.heap.size + 1 + 1 + (t.add t0).bs.size = T
    have EX : Ext w X := by rw [hX]; ((try simp only [ext_drew]); (try simp only [ext_ext]); repeat (first | exact Ext.refl _ | with_reducible apply Ext.add | with_reducible apply Ext.dr | apply Ext.alloc | apply Ext.ext | apply Ext.drew | refine Ext.trans ?_ (by assumption)))
    have AW := OwnR.of O.out (w' := X) (by rw [hX]; ((try simp only [ext_drew]); (try simp only [ext_ext]); repeat (first | exact Ext.refl _ | with_reducible apply Ext.add | with_reducible apply Ext.dr | apply Ext.alloc | apply Ext.ext | apply Ext.drew | refine Ext.trans ?_ (by assumption))))
    have hlo : w.heap.size + 2 ≤ (ext ((w.alloc (Obj.cells #[.int .i64 o.map.c, .int .i64 o.map.w, .slice h.a1 n1 h.c1, .slice h.a2 o.ground.length h.c2, .slice h.a3 o.air.length h.c3] 44)).alloc (Obj.cells #[.int .i64 0, .int .i64 0, .slice none 0 0, .slice none 0 0, .slice none 0 0] 44)) t).heap.size := (by (try simp [go_sem]) <;> (try simp [Xt.add]) <;> omega)
    have hhi : (ext (ext ((w.alloc (Obj.cells #[.int .i64 o.map.c, .int .i64 o.map.w, .slice h.a1 n1 h.c1, .slice h.a2 o.ground.length h.c2, .slice h.a3 o.air.length h.c3] 44)).alloc (Obj.cells #[.int .i64 0, .int .i64 0, .slice none 0 0, .slice none 0 0, .slice none 0 0] 44)) t) t0).heap.size ≤ T := by rw [← hT]; ((try simp [go_sem]) <;> (try simp [Xt.add]) <;> omega)
    obtain ⟨_, B, hnd, hr, ho⟩ := AW
    have hr' : ∀ b ∈ B, w.heap.size + 2 ≤ b ∧ b < T := fun b hb => by have := hr b hb; omega
    obtain ⟨B2, B3, B4, rfl, O2, O3, O4⟩ := own_one_split ho
    dsimp only at O2 O3 O4
    rw [HN1.out] at O2
    have bT : X.heap[T]? = some (.cells #[.int .i64 o.map.c, .int .i64 o.map.w, .slice p1 n1 q1, .slice p2 o.ground.length q2, .slice p3 o.air.length q3] 44 (0, 0)) := by rw [hX]; exact alloc_last (by rw [← hT]; simp [go_sem])
    have bR : X.heap[w.heap.size + 1]? = some (.cells #[.int .i64 0, .int .i64 0, .slice none 0 0, .slice none 0 0, .slice none 0 0] 44 (0, 0)) := by rw [hX]; exact blk_alloc (blk_ext (alloc_last (by simp)))
    have hTR : w.heap.size + 2 ≤ T := by omega
    have HEX := hid EX
    have HND := hid hnd
    have HRR := hid hr'
    have HO2 := hid O2
    have HO3 := hid O3
    have HO4 := hid O4
    have BT := hid bT
    have BR := hid bR
    have lT := lt_blk bT
    have lR := lt_blk bR
    clear hX hr hr' ho O2 O3 O4 O hlo hhi EX hnd hn1 bT bR hT
    have cT0 : X.cell? ⟨T, 0, none⟩ = some (.int .i64 o.map.c) := (cell_blk BT.out 0).trans rfl
    have cT1 : X.cell? ⟨T, 1, none⟩ = some (.int .i64 o.map.w) := (cell_blk BT.out 1).trans rfl
    have cT2 : X.cell? ⟨T, 2, none⟩ = some (.slice p1 n1 q1) := (cell_blk BT.out 2).trans rfl
    have cT3 : X.cell? ⟨T, 3, none⟩ = some (.slice p2 o.ground.length q2) := (cell_blk BT.out 3).trans rfl
    have cT4 : X.cell? ⟨T, 4, none⟩ = some (.slice p3 o.air.length q3) := (cell_blk BT.out 4).trans rfl
    have cR0 : X.cell? ⟨w.heap.size + 1, 0, none⟩ = some (.int .i64 0) := (cell_blk BR.out 0).trans rfl
    have cR1 : X.cell? ⟨w.heap.size + 1, 1, none⟩ = some (.int .i64 0) := (cell_blk BR.out 1).trans rfl
    have cR2 : X.cell? ⟨w.heap.size + 1, 2, none⟩ = some (.slice none 0 0) := (cell_blk BR.out 2).trans rfl
    have cR3 : X.cell? ⟨w.heap.size + 1, 3, none⟩ = some (.slice none 0 0) := (cell_blk BR.out 3).trans rfl
    have cR4 : X.cell? ⟨w.heap.size + 1, 4, none⟩ = some (.slice none 0 0) := (cell_blk BR.out 4).trans rfl
    have zR0 := frozen_blk BR.out 0
    have zR1 := frozen_blk BR.out 1
    have zR2 := frozen_blk BR.out 2
    have zR3 := frozen_blk BR.out 3
    have zR4 := frozen_blk BR.out 4
    have lM : w.heap.size < X.heap.size := by omega
    cases r1 : inB cell 0 (o.map.c - 1) with
    | false =>
      have ES := hid (show odV o cell side n = o by rw [odV, hok, downB, r1]; rfl)
      try go_wp2_with (first
          | (go_at_call 29; refine (l1In_c _ _ _ _).mono ?_; rintro e w' ⟨rfl, rfl⟩)
          | (
            with_reducible refine wp_region_mix (by kernel_rfl) (by decide +kernel) ?_
            repeat (first
              | (refine mix_pure rfl ?_; (first | go_big_quiet_skip | (go_big_quiet_want; go_big_quiet_op; go_big_quiet_on)); refine wpQuiet_nil ?_)
              | (refine mix_skip (by rfl) ?_; (try simp only [Act.put, List.setIfInBounds_toArray, List.set_cons_zero, List.set_cons_succ]))
              | (refine mix_mk rfl (by rfl) (fun K hK => ?_); (first | (go_simp; first | (go_at_call 29; refine (l1In_c _ _ _ _).mono ?_; rintro e w' ⟨rfl, rfl⟩) | skip)); (show K _ _); refine hK _ _ (show Ext _ _ from (by ((try simp only [ext_drew]); (try simp only [ext_ext]); repeat (first | exact Ext.refl _ | with_reducible apply Ext.add | with_reducible apply Ext.dr | apply Ext.alloc | apply Ext.ext | apply Ext.drew | refine Ext.trans ?_ (by assumption))))) ?_; clear hK K; (try simp only [Act.put, List.setIfInBounds_toArray, List.set_cons_zero, List.set_cons_succ])))
            refine mix_nil ?_)
          | (
            with_reducible refine wp_region_ext (by kernel_rfl) (by kernel_rfl) ?_
            repeat (first | go_big_quiet_skip | (go_big_quiet_want; go_big_quiet_op; first | go_big_quiet_on | (apply Exists.intro; refine ⟨fun _ => ?_, ?_⟩; ((first | (go_at_call 29; first | exact quiet_same (l1In_c _ _ _ _) | exact quiet_same2 (l1In_c _ _ _ _)))); (try rw [h1]); (try rw [h2]); (try rw [h3]); (try rw [h4]); (try rw [p1]); (try rw [p2]); (try rw [p3]); (try rw [p4]); (try rw [r1]); (try rw [r2]); (try rw [r3]); (try rw [r4]); (try rw [r5]); (try rw [r6]); (try rw [q3]); (try rw [q4]); (try rw [hp]); (try rw [hq]); go_big_quiet_on)))
            refine wpQuiet_nil ?_
            rintro _ ⟨tq, rfl⟩))
      refine bodyPost_ret (v := .agg #[.int .i64 o.map.c, .int .i64 o.map.w, .slice p1 n1 q1, .slice p2 o.ground.length q2, .slice p3 o.air.length q3]) (by simp [results, Try.results22, go_sem, cT0, cT1, cT2, cT3, cT4, cR0, cR1, cR2, cR3, cR4, lT, lR]) rfl ?_
      rw [ES.out]
      exact one_same HEX.out (by repeat (first | with_reducible exact Chg.refl _ _ | with_reducible apply Chg.drew | with_reducible apply Chg.drewl | with_reducible refine Chg.turn (by simp) | with_reducible refine Chg.both ?_ (by simp) | (with_reducible refine Chg.set ?_ (by simp) _) | with_reducible apply Chg.alloc | with_reducible apply Chg.ext)) HN1.out HO2.out HO3.out HO4.out HND.out HRR.out lT
    | true =>
      obtain ⟨j, rfl⟩ : ∃ j : Nat, cell = (j : Int) := ⟨cell.toNat, by have := inB_iff.1 r1; omega⟩
      have hj3 : j < o.ground.length := by have := inB_iff.1 r1; have := HF2.out; omega
      have hj4 : j < o.air.length := by have := inB_iff.1 r1; have := HF3.out; omega
      cases r2 : inB side 0 1 with
      | false =>
        have ES := hid (show odV o (j : Int) side n = o by rw [odV, hok, downB, r1, r2]; rfl)
        try go_wp2_with (first
            | (go_at_call 29; refine (l1In_c _ _ _ _).mono ?_; rintro e w' ⟨rfl, rfl⟩)
            | (
              with_reducible refine wp_region_mix (by kernel_rfl) (by decide +kernel) ?_
              repeat (first
                | (refine mix_pure rfl ?_; (first | go_big_quiet_skip | (go_big_quiet_want; go_big_quiet_op; go_big_quiet_on)); refine wpQuiet_nil ?_)
                | (refine mix_skip (by rfl) ?_; (try simp only [Act.put, List.setIfInBounds_toArray, List.set_cons_zero, List.set_cons_succ]))
                | (refine mix_mk rfl (by rfl) (fun K hK => ?_); (first | (go_simp; first | (go_at_call 29; refine (l1In_c _ _ _ _).mono ?_; rintro e w' ⟨rfl, rfl⟩) | skip)); (show K _ _); refine hK _ _ (show Ext _ _ from (by ((try simp only [ext_drew]); (try simp only [ext_ext]); repeat (first | exact Ext.refl _ | with_reducible apply Ext.add | with_reducible apply Ext.dr | apply Ext.alloc | apply Ext.ext | apply Ext.drew | refine Ext.trans ?_ (by assumption))))) ?_; clear hK K; (try simp only [Act.put, List.setIfInBounds_toArray, List.set_cons_zero, List.set_cons_succ])))
              refine mix_nil ?_)
            | (
              with_reducible refine wp_region_ext (by kernel_rfl) (by kernel_rfl) ?_
              repeat (first | go_big_quiet_skip | (go_big_quiet_want; go_big_quiet_op; first | go_big_quiet_on | (apply Exists.intro; refine ⟨fun _ => ?_, ?_⟩; ((first | (go_at_call 29; first | exact quiet_same (l1In_c _ _ _ _) | exact quiet_same2 (l1In_c _ _ _ _)))); (try rw [h1]); (try rw [h2]); (try rw [h3]); (try rw [h4]); (try rw [p1]); (try rw [p2]); (try rw [p3]); (try rw [p4]); (try rw [r1]); (try rw [r2]); (try rw [r3]); (try rw [r4]); (try rw [r5]); (try rw [r6]); (try rw [q3]); (try rw [q4]); (try rw [hp]); (try rw [hq]); go_big_quiet_on)))
              refine wpQuiet_nil ?_
              rintro _ ⟨tq, rfl⟩))
        refine bodyPost_ret (v := .agg #[.int .i64 o.map.c, .int .i64 o.map.w, .slice p1 n1 q1, .slice p2 o.ground.length q2, .slice p3 o.air.length q3]) (by simp [results, Try.results22, go_sem, cT0, cT1, cT2, cT3, cT4, cR0, cR1, cR2, cR3, cR4, lT, lR]) rfl ?_
        rw [ES.out]
        exact one_same HEX.out (by repeat (first | with_reducible exact Chg.refl _ _ | with_reducible apply Chg.drew | with_reducible apply Chg.drewl | with_reducible refine Chg.turn (by simp) | with_reducible refine Chg.both ?_ (by simp) | (with_reducible refine Chg.set ?_ (by simp) _) | with_reducible apply Chg.alloc | with_reducible apply Chg.ext)) HN1.out HO2.out HO3.out HO4.out HND.out HRR.out lT
      | true =>
        obtain ⟨s, rfl⟩ : ∃ s : Nat, side = (s : Int) := ⟨side.toNat, by have := inB_iff.1 r2; omega⟩
        have hs2 : s < 2 := by have := inB_iff.1 r2; omega
        obtain ⟨b3, arr3, T3, g, rfl, rfl, hl3, hg3, hb3, e3, z3, upd3⟩ := own_at_Int HO3.out hj3
        have hnd4 : B4.Nodup := (List.nodup_append.1 (List.nodup_append.1 HND.out).2.1).2.1
        have hxs : o.air[j]? = some o.air[j] := List.getElem?_eq_getElem hj4
        generalize hxe : o.air[j] = xs at hxs
        clear hxe
        obtain ⟨b4, arr4, T4, B5, v5, rfl, hl4, hb4, hv5, O5, hnd5, hsub5, upd4⟩ := own_sl_at (k := j) (x := ldat Dat.i xs) HO4.out hnd4 (by rw [List.getElem?_map, hxs]; rfl)
        have hr4 : ∀ b ∈ B4, w.heap.size + 2 ≤ b ∧ b < T := fun b hb => HRR.out b (by simp [hb])
        obtain ⟨k1, k2, k3, k4⟩ := HF4.out j g xs hg3 hxs
        obtain ⟨a5, c5, e5⟩ : ∃ a c, v5 = .slice a 2 c := by
          obtain ⟨a, c, h⟩ := (O5.re (fun b hb => by have := hr4 b (hsub5 b hb); omega)).slice
          rw [List.length_map, k3] at h
          exact ⟨a, c, (List.cons.inj h).1⟩
        subst e5
        obtain ⟨b5, arr5, T5, x, rfl, rfl, hl5, hx5, hb5, e5, z5, upd5⟩ := own_at_Int O5 hs2
        have kx := k4 x (List.mem_of_getElem? hx5)
        have kx1 := kx.1
        have kx2 := kx.2
        have m3 := HRR.out b3 (by simp)
        have m5 := hr4 b5 (hsub5 b5 (by simp))
        have c4 : X.cell? ⟨b4, j, none⟩ = some (.slice (some ⟨b5, 0, none⟩) 2 c5) := (cell_blk hb4 j).trans hv5
        have l4 := lt_blk hb4
        have l3 := lt_blk hb3
        have l5 := lt_blk hb5
        have eX : airX o (j : Int) (s : Int) = x := by rw [airX, airR, Int.toNat_natCast, Int.toNat_natCast, hxs]; simp [hx5]
        have eR : airR o (j : Int) = xs := by rw [airR, Int.toNat_natCast, hxs]; rfl
        have eG : grX o (j : Int) = g := by rw [grX, Int.toNat_natCast, hg3]; rfl
        have HEX1 := hid eX
        have HER := hid eR
        have HEG := hid eG
        have HU3 := hid upd3
        have HU4 := hid upd4
        have HU5 := hid upd5
        have HB3 := hid hb3
        have HB5 := hid hb5
        have HS5 := hid hsub5
        have HR4 := hid hr4
        clear upd3 upd4 upd5 hb3 hb4 hb5 hv5 hg3 hxs hx5 kx eX eR eG hl3 hl4 hl5 hsub5 hr4 O5 hnd5 hnd4 k3 k4
        cases r3 : inB n 1 x with
        | false =>
          have ES := hid (show odV o (j : Int) (s : Int) n = o by rw [odV, hok, downB, HEX1.out, r1, r2, r3]; rfl)
          try go_wp2_with (first
              | (go_at_call 29; refine (l1In_c _ _ _ _).mono ?_; rintro e w' ⟨rfl, rfl⟩)
              | (
                with_reducible refine wp_region_mix (by kernel_rfl) (by decide +kernel) ?_
                repeat (first
                  | (refine mix_pure rfl ?_; (first | go_big_quiet_skip | (go_big_quiet_want; go_big_quiet_op; go_big_quiet_on)); refine wpQuiet_nil ?_)
                  | (refine mix_skip (by rfl) ?_; (try simp only [Act.put, List.setIfInBounds_toArray, List.set_cons_zero, List.set_cons_succ]))
                  | (refine mix_mk rfl (by rfl) (fun K hK => ?_); (first | (go_simp; first | (go_at_call 29; refine (l1In_c _ _ _ _).mono ?_; rintro e w' ⟨rfl, rfl⟩) | skip)); (show K _ _); refine hK _ _ (show Ext _ _ from (by ((try simp only [ext_drew]); (try simp only [ext_ext]); repeat (first | exact Ext.refl _ | with_reducible apply Ext.add | with_reducible apply Ext.dr | apply Ext.alloc | apply Ext.ext | apply Ext.drew | refine Ext.trans ?_ (by assumption))))) ?_; clear hK K; (try simp only [Act.put, List.setIfInBounds_toArray, List.set_cons_zero, List.set_cons_succ])))
                refine mix_nil ?_)
              | (
                with_reducible refine wp_region_ext (by kernel_rfl) (by kernel_rfl) ?_
                repeat (first | go_big_quiet_skip | (go_big_quiet_want; go_big_quiet_op; first | go_big_quiet_on | (apply Exists.intro; refine ⟨fun _ => ?_, ?_⟩; ((first | (go_at_call 29; first | exact quiet_same (l1In_c _ _ _ _) | exact quiet_same2 (l1In_c _ _ _ _)))); (try rw [h1]); (try rw [h2]); (try rw [h3]); (try rw [h4]); (try rw [p1]); (try rw [p2]); (try rw [p3]); (try rw [p4]); (try rw [r1]); (try rw [r2]); (try rw [r3]); (try rw [r4]); (try rw [r5]); (try rw [r6]); (try rw [q3]); (try rw [q4]); (try rw [hp]); (try rw [hq]); go_big_quiet_on)))
                refine wpQuiet_nil ?_
                rintro _ ⟨tq, rfl⟩))
          refine bodyPost_ret (v := .agg #[.int .i64 o.map.c, .int .i64 o.map.w, .slice p1 n1 q1, .slice (some ⟨b3, 0, none⟩) o.ground.length q2, .slice (some ⟨b4, 0, none⟩) o.air.length q3]) (by simp [results, Try.results22, go_sem, cT0, cT1, cT2, cT3, cT4, cR0, cR1, cR2, cR3, cR4, lT, lR]) rfl ?_
          rw [ES.out]
          exact one_same HEX.out (by repeat (first | with_reducible exact Chg.refl _ _ | with_reducible apply Chg.drew | with_reducible apply Chg.drewl | with_reducible refine Chg.turn (by simp) | with_reducible refine Chg.both ?_ (by simp) | (with_reducible refine Chg.set ?_ (by simp) _) | with_reducible apply Chg.alloc | with_reducible apply Chg.ext)) HN1.out HO2.out HO3.out HO4.out HND.out HRR.out lT
        | true =>
          have kn := inB_iff.1 r3
          have kn1 := kn.1
          have kn2 := kn.2
          clear kn
          by_cases r4 : g + n ≤ 900
          · have ES := hid (show odV o (j : Int) (s : Int) n = ⟨o.map, o.wk, o.ground.set j (g + n), o.air.set j (xs.set s (x - n))⟩ by rw [odV, hok, downB, downV, HEX1.out, HEG.out, HER.out, r1, r2, r3, decide_eq_true r4]; rfl)
            have n53 : b5 ≠ b3 := fun e => by
              have := (List.nodup_append.1 (List.nodup_append.1 HND.out).2.1).2.2 b3 (by simp) b5 (HS5.out b5 (by simp))
              exact this e.symm
            have n35 : b3 ≠ b5 := Ne.symm n53
            have n5T : b5 ≠ T := by omega
            have nT5 : T ≠ b5 := by omega
            have n3T : b3 ≠ T := by omega
            have nT3 : T ≠ b3 := by omega
            have n5R : b5 ≠ w.heap.size + 1 := by omega
            have nR5 : w.heap.size + 1 ≠ b5 := by omega
            have n3R : b3 ≠ w.heap.size + 1 := by omega
            have nR3 : w.heap.size + 1 ≠ b3 := by omega
            have n4R : b4 ≠ w.heap.size + 1 := ne_zero_cells BR.out c4
            have nR4 : w.heap.size + 1 ≠ b4 := Ne.symm n4R
            have nTR : T ≠ w.heap.size + 1 := by omega
            have nRT : w.heap.size + 1 ≠ T := by omega
            try go_wp2_with (first
                | (go_at_call 29; refine (l1In_c _ _ _ _).mono ?_; rintro e w' ⟨rfl, rfl⟩)
                | (
                  with_reducible refine wp_region_mix (by kernel_rfl) (by decide +kernel) ?_
                  repeat (first
                    | (refine mix_pure rfl ?_; (first | go_big_quiet_skip | (go_big_quiet_want; go_big_quiet_op; go_big_quiet_on)); refine wpQuiet_nil ?_)
                    | (refine mix_skip (by rfl) ?_; (try simp only [Act.put, List.setIfInBounds_toArray, List.set_cons_zero, List.set_cons_succ]))
                    | (refine mix_mk rfl (by rfl) (fun K hK => ?_); (first | (go_simp; first | (go_at_call 29; refine (l1In_c _ _ _ _).mono ?_; rintro e w' ⟨rfl, rfl⟩) | skip)); (show K _ _); refine hK _ _ (show Ext _ _ from (by ((try simp only [ext_drew]); (try simp only [ext_ext]); repeat (first | exact Ext.refl _ | with_reducible apply Ext.add | with_reducible apply Ext.dr | apply Ext.alloc | apply Ext.ext | apply Ext.drew | refine Ext.trans ?_ (by assumption))))) ?_; clear hK K; (try simp only [Act.put, List.setIfInBounds_toArray, List.set_cons_zero, List.set_cons_succ])))
                  refine mix_nil ?_)
                | (
                  with_reducible refine wp_region_ext (by kernel_rfl) (by kernel_rfl) ?_
                  repeat (first | go_big_quiet_skip | (go_big_quiet_want; go_big_quiet_op; first | go_big_quiet_on | (apply Exists.intro; refine ⟨fun _ => ?_, ?_⟩; ((first | (go_at_call 29; first | exact quiet_same (l1In_c _ _ _ _) | exact quiet_same2 (l1In_c _ _ _ _)))); (try rw [h1]); (try rw [h2]); (try rw [h3]); (try rw [h4]); (try rw [p1]); (try rw [p2]); (try rw [p3]); (try rw [p4]); (try rw [r1]); (try rw [r2]); (try rw [r3]); (try rw [r4]); (try rw [r5]); (try rw [r6]); (try rw [q3]); (try rw [q4]); (try rw [hp]); (try rw [hq]); go_big_quiet_on)))
                  refine wpQuiet_nil ?_
                  rintro _ ⟨tq, rfl⟩))
            try go_wp2_with (first
                | fail
                | (
                  with_reducible refine wp_region_NR (w.heap.size + 1) (by kernel_rfl) (by decide +kernel) (by decide +kernel) rfl rfl ?_
                  simp only [List.dropLast_cons_cons, List.dropLast_singleton]
                  repeat (first
                    | (refine mix_pure rfl ?_; (first | go_big_quiet_skip | (go_big_quiet_want; go_big_quiet_op; go_big_quiet_on)); refine wpQuiet_nil ?_)
                    | (refine mix_skip (by rfl) ?_; (try simp only [Act.put, List.setIfInBounds_toArray, List.set_cons_zero, List.set_cons_succ]))
                    | (refine mix_mk rfl (by rfl) (fun K hK => ?_); (first | (go_simp; first | skip)); (show K _ _); refine hK _ _ (extR_of (by repeat (first | with_reducible exact Chg.refl _ _ | with_reducible apply Chg.drew | with_reducible apply Chg.drewl | with_reducible refine Chg.turn (by simp) | with_reducible refine Chg.both ?_ (by simp) | (with_reducible refine Chg.set ?_ (by simp) _) | with_reducible apply Chg.alloc | with_reducible apply Chg.ext | with_reducible refine Chg.trans ?_ (Hid.out (by assumption))))) ?_; clear hK K; (try simp only [Act.put, List.setIfInBounds_toArray, List.set_cons_zero, List.set_cons_succ])))
                  refine mixN_nil (fun K hK => ?_)
                  go_simp
                  (show K _ _)
                  refine hK _ _ ?_
                  clear hK K
                  (try simp only [Act.put, List.setIfInBounds_toArray, List.set_cons_zero, List.set_cons_succ])))
            refine bodyPost_ret (v := .agg #[.int .i64 o.map.c, .int .i64 o.map.w, .slice p1 n1 q1, .slice (some ⟨b3, 0, none⟩) o.ground.length q2, .slice (some ⟨b4, 0, none⟩) o.air.length q3]) (by simp [results, Try.results22, go_sem, cT0, cT1, cT2, cT3, cT4, cR0, cR1, cR2, cR3, cR4, lT, lR, n5T, nT5, n3T, nT3, n5R, nR5, n3R, nR3]) rfl ?_
            rw [ES.out]
            have HND1 := HND.out
            have i5 : b5 ∈ B4 := HS5.out b5 (by simp)
            have hC : ∀ c ∈ [b5, b3, w.heap.size + 1], w.heap.size ≤ c := fun c hc => by simp only [List.mem_cons, List.not_mem_nil, or_false] at hc; omega
            have hk2 : ∀ c, c ∈ B2 → c < X.heap.size ∧ c ∉ [b5, b3, w.heap.size + 1] := fun c hc => by
              have h1 := HRR.out c (by simp [hc])
              have h2 := (List.nodup_append.1 HND1).2.2 c hc b3 (by simp)
              have h3 := (List.nodup_append.1 HND1).2.2 c hc b5 (by simp [i5])
              refine ⟨by omega, ?_⟩
              simp only [List.mem_cons, List.not_mem_nil, or_false, not_or]
              omega
            have hk4 : ∀ c, c ∈ B4 → c < X.heap.size ∧ c ≠ b3 ∧ c ≠ w.heap.size + 1 := fun c hc => by
              have h1 := HR4.out c hc
              have h2 := (List.nodup_append.1 (List.nodup_append.1 HND1).2.1).2.2 b3 (by simp) c hc
              refine ⟨by omega, fun e => h2 e.symm, by omega⟩
            have hlt4 : ∀ z ∈ B4, z < X.heap.size := fun c hc => (hk4 c hc).1
            have hds : ((o.air.map (ldat Dat.i)).set j (ldat Dat.i (xs.set s (x - n)))) = (o.air.set j (xs.set s (x - n))).map (ldat Dat.i) := by rw [List.map_set]
            have h5 := HU5.out (X.setCell ⟨b5, s, none⟩ (.int .i64 (x - n))) (x - n) (blk_set HB5.out)
            have hU := HU4.out (X.setCell ⟨b5, s, none⟩ (.int .i64 (x - n))) (ldat Dat.i (xs.set s (x - n)))
            rw [hds] at hU
            refine made_one HEX.out (C := [b5, b3, w.heap.size + 1]) (by repeat (first | with_reducible exact Chg.refl _ _ | with_reducible apply Chg.drew | with_reducible apply Chg.drewl | with_reducible refine Chg.turn (by simp) | with_reducible refine Chg.both ?_ (by simp) | (with_reducible refine Chg.set ?_ (by simp) _) | with_reducible apply Chg.alloc | with_reducible apply Chg.ext)) hC HN1.out (by rw [List.length_set]) (by rw [List.length_set]) (own_keep HO2.out (C := [b5, b3, w.heap.size + 1]) (by repeat (first | with_reducible exact Chg.refl _ _ | with_reducible apply Chg.drew | with_reducible apply Chg.drewl | with_reducible refine Chg.turn (by simp) | with_reducible refine Chg.both ?_ (by simp) | (with_reducible refine Chg.set ?_ (by simp) _) | with_reducible apply Chg.alloc | with_reducible apply Chg.ext)) hk2) (HU3.out _ (g + n) (by repeat (first | with_reducible exact HB3.out | with_reducible apply blk_drew | with_reducible refine blk_set ?_ | (with_reducible refine blk_other ?_ (by first | assumption | omega)) | with_reducible refine blk_ext ?_ | with_reducible refine blk_alloc ?_))) ?_ HND1 (fun c hc => by have := HRR.out c hc; omega)
            exact down_own4 HB5.out (by repeat (first | with_reducible exact HB5.out | with_reducible apply blk_drew | with_reducible refine blk_set ?_ | (with_reducible refine blk_other ?_ (by first | assumption | omega)) | with_reducible refine blk_ext ?_ | with_reducible refine blk_alloc ?_)) (R := w.heap.size + 1) (b3 := b3) (by repeat (first | with_reducible exact Chg.refl _ _ | with_reducible apply Chg.drew | with_reducible apply Chg.drewl | with_reducible refine Chg.turn (by simp) | with_reducible refine Chg.both ?_ (by simp) | (with_reducible refine Chg.set ?_ (by simp) _) | with_reducible apply Chg.alloc | with_reducible apply Chg.ext)) (fun h c => hU h c hlt4) h5 hk4
          · have ES := hid (show odV o (j : Int) (s : Int) n = o by rw [odV, hok, downB, HEX1.out, HEG.out, r1, r2, r3, decide_eq_false r4]; rfl)
            try go_wp2_with (first
                | (go_at_call 29; refine (l1In_c _ _ _ _).mono ?_; rintro e w' ⟨rfl, rfl⟩)
                | (
                  with_reducible refine wp_region_mix (by kernel_rfl) (by decide +kernel) ?_
                  repeat (first
                    | (refine mix_pure rfl ?_; (first | go_big_quiet_skip | (go_big_quiet_want; go_big_quiet_op; go_big_quiet_on)); refine wpQuiet_nil ?_)
                    | (refine mix_skip (by rfl) ?_; (try simp only [Act.put, List.setIfInBounds_toArray, List.set_cons_zero, List.set_cons_succ]))
                    | (refine mix_mk rfl (by rfl) (fun K hK => ?_); (first | (go_simp; first | (go_at_call 29; refine (l1In_c _ _ _ _).mono ?_; rintro e w' ⟨rfl, rfl⟩) | skip)); (show K _ _); refine hK _ _ (show Ext _ _ from (by ((try simp only [ext_drew]); (try simp only [ext_ext]); repeat (first | exact Ext.refl _ | with_reducible apply Ext.add | with_reducible apply Ext.dr | apply Ext.alloc | apply Ext.ext | apply Ext.drew | refine Ext.trans ?_ (by assumption))))) ?_; clear hK K; (try simp only [Act.put, List.setIfInBounds_toArray, List.set_cons_zero, List.set_cons_succ])))
                  refine mix_nil ?_)
                | (
                  with_reducible refine wp_region_ext (by kernel_rfl) (by kernel_rfl) ?_
                  repeat (first | go_big_quiet_skip | (go_big_quiet_want; go_big_quiet_op; first | go_big_quiet_on | (apply Exists.intro; refine ⟨fun _ => ?_, ?_⟩; ((first | (go_at_call 29; first | exact quiet_same (l1In_c _ _ _ _) | exact quiet_same2 (l1In_c _ _ _ _)))); (try rw [h1]); (try rw [h2]); (try rw [h3]); (try rw [h4]); (try rw [p1]); (try rw [p2]); (try rw [p3]); (try rw [p4]); (try rw [r1]); (try rw [r2]); (try rw [r3]); (try rw [r4]); (try rw [r5]); (try rw [r6]); (try rw [q3]); (try rw [q4]); (try rw [hp]); (try rw [hq]); go_big_quiet_on)))
                  refine wpQuiet_nil ?_
                  rintro _ ⟨tq, rfl⟩))
            refine bodyPost_ret (v := .agg #[.int .i64 o.map.c, .int .i64 o.map.w, .slice p1 n1 q1, .slice (some ⟨b3, 0, none⟩) o.ground.length q2, .slice (some ⟨b4, 0, none⟩) o.air.length q3]) (by simp [results, Try.results22, go_sem, cT0, cT1, cT2, cT3, cT4, cR0, cR1, cR2, cR3, cR4, lT, lR]) rfl ?_
            rw [ES.out]
            exact one_same HEX.out (by repeat (first | with_reducible exact Chg.refl _ _ | with_reducible apply Chg.drew | with_reducible apply Chg.drewl | with_reducible refine Chg.turn (by simp) | with_reducible refine Chg.both ?_ (by simp) | (with_reducible refine Chg.set ?_ (by simp) _) | with_reducible apply Chg.alloc | with_reducible apply Chg.ext)) HN1.out HO2.out HO3.out HO4.out HND.out HRR.out lT
end Go.Proofs.Ytcfbfpgcfnpdgaa
