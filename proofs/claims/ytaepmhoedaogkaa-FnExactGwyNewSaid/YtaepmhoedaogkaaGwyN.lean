/- GwyNew: the book of walkers at their beginning. -/
import Derived.Test.YtaepmhoedaogkaaGwyB
import Derived.Test.YtaepmhoedaogkaaWlkL
import Derived.Test.YtaepmhoedaogkaaApp
import Derived.Test.YtaepmhoedaogkaaGapL
namespace Go.Proofs.Ytaepmhoedaogkaa
open Go.RowKit
set_option linter.unusedSimpArgs false
set_option linter.unusedVariables false

def newRow (m : Mp) (x : Wlk) : Row := ⟨x.id, plcCell m x.at_, false, ⟨0, 0, 0, 0, 0⟩, x.seq, x.last⟩
def gnL (m : Mp) (xs : List Wlk) : List Row := if wlkAll m xs && plcOk m then xs.map (newRow m) else []
theorem gnL_len (m : Mp) (xs : List Wlk) : (gnL m xs).length ≤ xs.length := by unfold gnL; split <;> simp

theorem wp_appR_Row {o : Oper} {a : Act} {K : Act → World → Prop} {Q : Exit → Act → World → Prop} {w : World} (R base : Nat) (s x : Operand) (ho : o.op = .call { callee := .builtin .append, args := #[s, x], argTypes := #[79, 79] })
    {v : Value} {xs : List Row} (hs : a.eval s = v) (hb : base ≤ w.heap.size) (hown : w.ownsRow base 119 10 v xs.length (xs.flatMap Row.cells)) (hR : ∀ g, v.ownBlock = some g → g = R) (y : Row) {b c : Nat} {T' : TypeId} (hx : a.eval x = .slice (some ⟨b, 0, none⟩) 1 c) (hy : w.heap[b]? = some (.cells y.cells.toArray T' (0, 0))) (hn : xs.length ≤ 4194304)
    (h : ∀ v' w', w'.ownsRow base 119 10 v' (xs ++ [y]).length ((xs ++ [y]).flatMap Row.cells) → Chg [R] w w' → K (a.put o.dst v') w') : o.wp Try.prog a w K Q :=
  wp_appR (cells := Row.cells) (k := 10) (bytes := 80) (z := .agg #[.int .i64 0, .int .i64 0, .bool false, .int .i64 0, .int .i64 0, .int .i64 0, .int .i64 0, .int .i64 0, .int .i64 0, .int .i64 0]) Try.underlying79 (by kernel_rfl) rfl (by decide) (by decide) (fun _ => rfl) (fun x u hu => by simp only [Row.cells, List.mem_cons, List.not_mem_nil, or_false] at hu; rcases hu with rfl | rfl | rfl | rfl | rfl | rfl | rfl | rfl | rfl | rfl <;> rfl) R base s x ho hs hb hown hR y hx hy hn h
theorem take_map_snoc {α β : Type} {f : α → β} {xs : List α} {k : Nat} {x : α} (hx : xs[k]? = some x) : (xs.take (k + 1)).map f = (xs.take k).map f ++ [f x] := by
  rw [List.take_add_one, hx]; simp

set_option maxRecDepth 100000 in
set_option maxHeartbeats 4000000 in
theorem iGwyNew_c (m : Mp) (xs : List Wlk) (a : Option Addr) (n c : Nat) (w : World) (hx : Re w (.sl sWlk) [.slice a n c] (.l (xs.map Wlk.dat))) (hn : n ≤ 1048576) :
    Calls Try.prog 60 #[.agg #[.int .i64 m.c, .int .i64 m.w], .slice a n c] w (MadeGwy w (gnL m xs).length (gnL m xs)) := by
  have HX := hid hx
  clear hx
  cases p1 : (wlkAll m xs && plcOk m) with
  | false =>
    go_enter Try.func60, Try.ntmps60
    try go_wp2_with (first
        | (go_at_call 94; refine (iWlkListOk_c _ _ _ _ _ _ (Re.of (Hid.out (by assumption)) (by ((try simp only [ext_drew]); (try simp only [ext_ext]); repeat (first | exact Ext.refl _ | with_reducible apply Ext.add | with_reducible apply Ext.dr | apply Ext.alloc | apply Ext.ext | apply Ext.drew | refine Ext.trans ?_ (by assumption))))) (by omega)).mono ?_; rintro e w' ⟨rfl, t, rfl⟩)
        | (
          with_reducible refine wp_region_mix (by kernel_rfl) (by decide +kernel) ?_
          repeat (first
            | (refine mix_pure rfl ?_; (first | go_big_quiet_skip | (go_big_quiet_want; go_big_quiet_op; go_big_quiet_on)); refine wpQuiet_nil ?_)
            | (refine mix_skip (by rfl) ?_; (try simp only [Act.put, List.setIfInBounds_toArray, List.set_cons_zero, List.set_cons_succ]))
            | (refine mix_mk rfl (by rfl) (fun K hK => ?_); (first | (go_simp; first | (go_at_call 94; refine (iWlkListOk_c _ _ _ _ _ _ (Re.of (Hid.out (by assumption)) (by ((try simp only [ext_drew]); (try simp only [ext_ext]); repeat (first | exact Ext.refl _ | with_reducible apply Ext.add | with_reducible apply Ext.dr | apply Ext.alloc | apply Ext.ext | apply Ext.drew | refine Ext.trans ?_ (by assumption))))) (by omega)).mono ?_; rintro e w' ⟨rfl, t, rfl⟩) | skip)); (show K _ _); refine hK _ _ (show Ext _ _ from (by ((try simp only [ext_drew]); (try simp only [ext_ext]); repeat (first | exact Ext.refl _ | with_reducible apply Ext.add | with_reducible apply Ext.dr | apply Ext.alloc | apply Ext.ext | apply Ext.drew | refine Ext.trans ?_ (by assumption))))) ?_; clear hK K; (try simp only [Act.put, List.setIfInBounds_toArray, List.set_cons_zero, List.set_cons_succ])))
          refine mix_nil ?_)
        | (
          with_reducible refine wp_region_ext (by kernel_rfl) (by kernel_rfl) ?_
          repeat (first | go_big_quiet_skip | (go_big_quiet_want; go_big_quiet_op; first | go_big_quiet_on | (apply Exists.intro; refine ⟨fun _ => ?_, ?_⟩; ((first | (go_at_call 94; first | exact quiet_call (iWlkListOk_c _ _ _ _ _ _ (Re.of (Hid.out (by assumption)) (by ((try simp only [ext_drew]); (try simp only [ext_ext]); repeat (first | exact Ext.refl _ | with_reducible apply Ext.add | with_reducible apply Ext.dr | apply Ext.alloc | apply Ext.ext | apply Ext.drew | refine Ext.trans ?_ (by assumption))))) (by omega)) | exact quiet_call2 (iWlkListOk_c _ _ _ _ _ _ (Re.of (Hid.out (by assumption)) (by ((try simp only [ext_drew]); (try simp only [ext_ext]); repeat (first | exact Ext.refl _ | with_reducible apply Ext.add | with_reducible apply Ext.dr | apply Ext.alloc | apply Ext.ext | apply Ext.drew | refine Ext.trans ?_ (by assumption))))) (by omega))))); (try rw [h1]); (try rw [h2]); (try rw [h3]); (try rw [h4]); (try rw [p1]); (try rw [p2]); (try rw [p3]); (try rw [p4]); (try rw [r1]); (try rw [r2]); (try rw [r3]); (try rw [r4]); (try rw [r5]); (try rw [r6]); (try rw [q3]); (try rw [q4]); (try rw [hp]); (try rw [hq]); go_big_quiet_on)))
          refine wpQuiet_nil ?_
          rintro _ ⟨tq, rfl⟩))
    refine bodyPost_ret (v := .agg #[.slice none 0 0]) (by simp [results, Try.results60, go_sem]) rfl ?_
    rw [show gnL m xs = [] by rw [gnL, p1]; rfl]
    exact ⟨_, _, rfl, (by ((try simp only [ext_drew]); (try simp only [ext_ext]); repeat (first | exact Ext.refl _ | with_reducible apply Ext.add | with_reducible apply Ext.dr | apply Ext.alloc | apply Ext.ext | apply Ext.drew | refine Ext.trans ?_ (by assumption)))), Nat.le_refl _, [], by simp, by simp, own_Gwy_nil _⟩
  | true =>
    have E := hid (show gnL m xs = xs.map (newRow m) by rw [gnL, p1]; rfl)
    have p2 : plcOk m = true := by simp at p1; exact p1.2
    have h1 : wlkAll m xs = true := by simp at p1; exact p1.1
    go_enter Try.func60, Try.ntmps60
    try go_wp2_with (first
        | (go_at_call 94; refine (iWlkListOk_c _ _ _ _ _ _ (Re.of (Hid.out (by assumption)) (by ((try simp only [ext_drew]); (try simp only [ext_ext]); repeat (first | exact Ext.refl _ | with_reducible apply Ext.add | with_reducible apply Ext.dr | apply Ext.alloc | apply Ext.ext | apply Ext.drew | refine Ext.trans ?_ (by assumption))))) (by omega)).mono ?_; rintro e w' ⟨rfl, t, rfl⟩)
        | (
          with_reducible refine wp_region_mix (by kernel_rfl) (by decide +kernel) ?_
          repeat (first
            | (refine mix_pure rfl ?_; (first | go_big_quiet_skip | (go_big_quiet_want; go_big_quiet_op; go_big_quiet_on)); refine wpQuiet_nil ?_)
            | (refine mix_skip (by rfl) ?_; (try simp only [Act.put, List.setIfInBounds_toArray, List.set_cons_zero, List.set_cons_succ]))
            | (refine mix_mk rfl (by rfl) (fun K hK => ?_); (first | (go_simp; first | (go_at_call 94; refine (iWlkListOk_c _ _ _ _ _ _ (Re.of (Hid.out (by assumption)) (by ((try simp only [ext_drew]); (try simp only [ext_ext]); repeat (first | exact Ext.refl _ | with_reducible apply Ext.add | with_reducible apply Ext.dr | apply Ext.alloc | apply Ext.ext | apply Ext.drew | refine Ext.trans ?_ (by assumption))))) (by omega)).mono ?_; rintro e w' ⟨rfl, t, rfl⟩) | skip)); (show K _ _); refine hK _ _ (show Ext _ _ from (by ((try simp only [ext_drew]); (try simp only [ext_ext]); repeat (first | exact Ext.refl _ | with_reducible apply Ext.add | with_reducible apply Ext.dr | apply Ext.alloc | apply Ext.ext | apply Ext.drew | refine Ext.trans ?_ (by assumption))))) ?_; clear hK K; (try simp only [Act.put, List.setIfInBounds_toArray, List.set_cons_zero, List.set_cons_succ])))
          refine mix_nil ?_)
        | (
          with_reducible refine wp_region_ext (by kernel_rfl) (by kernel_rfl) ?_
          repeat (first | go_big_quiet_skip | (go_big_quiet_want; go_big_quiet_op; first | go_big_quiet_on | (apply Exists.intro; refine ⟨fun _ => ?_, ?_⟩; ((first | (go_at_call 94; first | exact quiet_call (iWlkListOk_c _ _ _ _ _ _ (Re.of (Hid.out (by assumption)) (by ((try simp only [ext_drew]); (try simp only [ext_ext]); repeat (first | exact Ext.refl _ | with_reducible apply Ext.add | with_reducible apply Ext.dr | apply Ext.alloc | apply Ext.ext | apply Ext.drew | refine Ext.trans ?_ (by assumption))))) (by omega)) | exact quiet_call2 (iWlkListOk_c _ _ _ _ _ _ (Re.of (Hid.out (by assumption)) (by ((try simp only [ext_drew]); (try simp only [ext_ext]); repeat (first | exact Ext.refl _ | with_reducible apply Ext.add | with_reducible apply Ext.dr | apply Ext.alloc | apply Ext.ext | apply Ext.drew | refine Ext.trans ?_ (by assumption))))) (by omega))))); (try rw [h1]); (try rw [h2]); (try rw [h3]); (try rw [h4]); (try rw [p1]); (try rw [p2]); (try rw [p3]); (try rw [p4]); (try rw [r1]); (try rw [r2]); (try rw [r3]); (try rw [r4]); (try rw [r5]); (try rw [r6]); (try rw [q3]); (try rw [q4]); (try rw [hp]); (try rw [hq]); go_big_quiet_on)))
          refine wpQuiet_nil ?_
          rintro _ ⟨tq, rfl⟩))
    refine wp_gen fun B0 hB0 => ?_
    generalize hTe : w.heap.size + 1 + 1 + t.bs.size = T
    have EB : Ext w B0 := by rw [hB0]; ((try simp only [ext_drew]); (try simp only [ext_ext]); repeat (first | exact Ext.refl _ | with_reducible apply Ext.add | with_reducible apply Ext.dr | apply Ext.alloc | apply Ext.ext | apply Ext.drew | refine Ext.trans ?_ (by assumption)))
    have hTw : w.heap.size + 1 + 1 ≤ T := by omega
    have hT0 : B0.heap[T]? = some (.cells #[.slice none 0 0] 81 (0, 0)) := by rw [hB0]; exact alloc_last (by rw [← hTe]; simp [go_sem])
    have lB0 : T + 1 = B0.heap.size := by rw [← hTe, hB0]; simp [go_sem]
    have bM0 : B0.cell? ⟨w.heap.size, 0, none⟩ = some (.int .i64 m.c) := by rw [hB0]; simp [go_sem]
    have bM1 : B0.cell? ⟨w.heap.size, 1, none⟩ = some (.int .i64 m.w) := by rw [hB0]; simp [go_sem]
    have bR : B0.cell? ⟨w.heap.size + 1, 0, none⟩ = some (.slice none 0 0) := by rw [hB0]; simp [go_sem]
    have bRz : B0.frozen? ⟨w.heap.size + 1, 0, none⟩ = false := by rw [hB0]; simp [go_sem]
    have lT0 : T < B0.heap.size := by omega
    clear hB0 hTe
    have HB0 := hid hT0
    go_loopw [15] (fun i wr => ∃ (k : Nat) (v : Value), k ≤ n ∧ i = .int .i64 k ∧ wr.heap[T]? = some (.cells #[v] 81 (0, 0)) ∧ wr.ownsRow B0.heap.size 119 10 v ((xs.take k).map (newRow m)).length (((xs.take k).map (newRow m)).flatMap Row.cells) ∧ Chg [T] B0 wr) (fun i _ => n - (intOf i).toNat)
    case atStart => exact ⟨0, .slice none 0 0, Nat.zero_le _, rfl, HB0.out, by simpa using World.ownsRow_nil _ _ _ _, Chg.refl _ _⟩
    case round =>
      obtain ⟨k, v, hk, rfl, hT, hrow, hch⟩ := hrel
      have HG := hid hrow
      have HC := hid hch
      have hsz := hch.size
      have lT : T < wr.heap.size := lt_blk hT
      have cT : wr.cell? ⟨T, 0, none⟩ = some v := (cell_blk hT 0).trans rfl
      have zT := frozen_blk hT 0
      have lM : w.heap.size < wr.heap.size := by omega
      have cM0 : wr.cell? ⟨w.heap.size, 0, none⟩ = some (.int .i64 m.c) := (hch.cell (by omega) (by simp; omega) 0).trans bM0
      have cM1 : wr.cell? ⟨w.heap.size, 1, none⟩ = some (.int .i64 m.w) := (hch.cell (by omega) (by simp; omega) 1).trans bM1
      have cR : wr.cell? ⟨w.heap.size + 1, 0, none⟩ = some (.slice none 0 0) := (hch.cell (by omega) (by simp; omega) 0).trans bR
      have zR : wr.frozen? ⟨w.heap.size + 1, 0, none⟩ = false := (Chg.frozen hch (by omega) (by simp; omega) 0).trans bRz
      have lR : w.heap.size + 1 < wr.heap.size := by omega
      have hbel : Below w.heap.size w wr := Below.chg (w0 := w) EB.below hch (fun b hb => by
        obtain rfl : b = T := by simpa using hb
        omega)
      have HXr := hid (Re.below HX.out hbel)
      have HBl := hid hbel
      have HTb := hid hT
      clear hT hrow hch hbel
      by_cases hlt : k < n
      · obtain ⟨x, b1, o1, hxk, rfl, hb1, f0, f1, f2, f3, f4⟩ := at_Wlk HX.out hlt
        have hq : ∀ o, wr.cell? ⟨b1, o, none⟩ = w.cell? ⟨b1, o, none⟩ := fun o => World.cell?_of_block (a := ⟨b1, o, none⟩) (HBl.out.block b1 hb1)
        rw [← hq] at f0 f1 f2 f3 f4
        clear hq
        have lb1 : b1 < wr.heap.size := by omega
        have HK := hid hxk
        clear hxk
        obtain ⟨R, hR, hBR, hRc⟩ := row_block v B0.heap.size 0 HG.out hsz
        have hTR : T ≠ R := by omega
        have hRT : R ≠ T := by omega
        have hcR : wr.heap.size ≠ R := Ne.symm hRc
        have hMR : w.heap.size ≠ R := by omega
        have hbR : b1 ≠ R := by omega
        have HRr := hid hR
        have dT : ∀ t, (ext wr.drew t).cell? ⟨T, 0, none⟩ = some v := fun t => (ext_cell' _ _ _ _ lT).trans cT
        have dZ : ∀ t, (ext wr.drew t).frozen? ⟨T, 0, none⟩ = false := fun t => (ext_frozen' _ _ _ _ lT).trans zT
        have hlen : ((xs.take k).map (newRow m)).length ≤ 4194304 := by rw [List.length_map, List.length_take]; omega
        clear hR
        try go_wp2_with (first
            | (go_at_call 95; refine (iPlcCell_c _ _ _).mono ?_; rintro e w' ⟨rfl, t, rfl⟩) | (refine wp_appR_Row R B0.heap.size _ _ rfl rfl (by (try simp [go_sem]) <;> (try simp [Xt.add]) <;> omega) (by repeat (first | with_reducible apply ownsRow_alloc | exact HG.out | with_reducible apply ownsRow_drew | with_reducible apply ownsRow_ext)) HRr.out (newRow m x) rfl (alloc_last (by simp [go_sem])) hlen ?_; intro v2 w2 hg2 hc2; obtain ⟨sa, sn, sc, rfl⟩ := row_slice hg2; have HG2 := hid hg2; have HC2 := hid hc2; have l2 : T < w2.heap.size := Nat.lt_of_lt_of_le (by (try simp [go_sem]) <;> (try simp [Xt.add]) <;> omega) hc2.size; have q2 : w2.cell? ⟨T, 0, none⟩ = some v := (hc2.cell (by (try simp [go_sem]) <;> (try simp [Xt.add]) <;> omega) (by simp [hTR]) 0).trans (by simp [go_sem, cT, lT, dT]); have b2 : w2.heap[T]? = some (.cells #[v] 81 (0, 0)) := (hc2.block T (by (try simp [go_sem]) <;> (try simp [Xt.add]) <;> omega) (by simp [hTR])).trans (by repeat (first | with_reducible exact HTb.out | with_reducible apply blk_drew | with_reducible refine blk_set ?_ | (with_reducible refine blk_other ?_ (by first | assumption | omega)) | with_reducible refine blk_ext ?_ | with_reducible refine blk_alloc ?_)); have z2 : w2.frozen? ⟨T, 0, none⟩ = false := (Chg.frozen hc2 (by (try simp [go_sem]) <;> (try simp [Xt.add]) <;> omega) (by simp [hTR]) 0).trans (by simp [go_sem, zT, lT, dZ]); have B2 := hid b2; clear hg2 hc2 b2)
            | (
              with_reducible refine wp_region_NR (R) (by kernel_rfl) (by decide +kernel) (by decide +kernel) rfl rfl ?_
              simp only [List.dropLast_cons_cons, List.dropLast_singleton]
              repeat (first
                | (refine mix_pure rfl ?_; (first | go_big_quiet_skip | (go_big_quiet_want; go_big_quiet_op; go_big_quiet_on)); refine wpQuiet_nil ?_)
                | (refine mix_skip (by rfl) ?_; (try simp only [Act.put, List.setIfInBounds_toArray, List.set_cons_zero, List.set_cons_succ]))
                | (refine mix_mk rfl (by rfl) (fun K hK => ?_); (first | (refine wp_appR_Row R B0.heap.size _ _ rfl rfl (by (try simp [go_sem]) <;> (try simp [Xt.add]) <;> omega) (by repeat (first | with_reducible apply ownsRow_alloc | exact HG.out | with_reducible apply ownsRow_drew | with_reducible apply ownsRow_ext)) HRr.out (newRow m x) rfl (alloc_last (by simp [go_sem])) hlen ?_; intro v2 w2 hg2 hc2; obtain ⟨sa, sn, sc, rfl⟩ := row_slice hg2; have HG2 := hid hg2; have HC2 := hid hc2; have l2 : T < w2.heap.size := Nat.lt_of_lt_of_le (by (try simp [go_sem]) <;> (try simp [Xt.add]) <;> omega) hc2.size; have q2 : w2.cell? ⟨T, 0, none⟩ = some v := (hc2.cell (by (try simp [go_sem]) <;> (try simp [Xt.add]) <;> omega) (by simp [hTR]) 0).trans (by simp [go_sem, cT, lT, dT]); have b2 : w2.heap[T]? = some (.cells #[v] 81 (0, 0)) := (hc2.block T (by (try simp [go_sem]) <;> (try simp [Xt.add]) <;> omega) (by simp [hTR])).trans (by repeat (first | with_reducible exact HTb.out | with_reducible apply blk_drew | with_reducible refine blk_set ?_ | (with_reducible refine blk_other ?_ (by first | assumption | omega)) | with_reducible refine blk_ext ?_ | with_reducible refine blk_alloc ?_)); have z2 : w2.frozen? ⟨T, 0, none⟩ = false := (Chg.frozen hc2 (by (try simp [go_sem]) <;> (try simp [Xt.add]) <;> omega) (by simp [hTR]) 0).trans (by simp [go_sem, zT, lT, dZ]); have B2 := hid b2; clear hg2 hc2 b2) | (go_simp; first | (go_at_call 95; refine (iPlcCell_c _ _ _).mono ?_; rintro e w' ⟨rfl, t, rfl⟩) | skip)); (show K _ _); refine hK _ _ (extR_of (by repeat (first | with_reducible exact Chg.refl _ _ | with_reducible apply Chg.drew | with_reducible apply Chg.drewl | with_reducible refine Chg.turn (by simp) | with_reducible refine Chg.both ?_ (by simp) | (with_reducible refine Chg.set ?_ (by simp) _) | with_reducible apply Chg.alloc | with_reducible apply Chg.ext | with_reducible refine Chg.trans ?_ (Hid.out (by assumption))))) ?_; clear hK K; (try simp only [Act.put, List.setIfInBounds_toArray, List.set_cons_zero, List.set_cons_succ])))
              refine mixN_nil (fun K hK => ?_)
              go_simp
              (show K _ _)
              refine hK _ _ ?_
              clear hK K
              (try simp only [Act.put, List.setIfInBounds_toArray, List.set_cons_zero, List.set_cons_succ])))
        go_roundw
        case rel =>
          refine ⟨k + 1, .slice sa sn sc, by omega, by go_num, (by exact blk_set B2.out), ?_, Chg.set (Chg.up (by repeat (first | with_reducible exact HC.out | with_reducible apply Chg.drew | with_reducible apply Chg.alloc | with_reducible apply Chg.ext)) HC2.out (by simp; omega)) (by simp) _⟩
          rw [take_map_snoc HK.out]
          exact ownsRow_chg HG2.out ((Chg.refl [T] w2).set (by simp) _) (by simp; omega)
        case measure => simp [intOf]; omega
      · have HE := hid (show xs.take k = xs from List.take_of_length_le (by rw [← HX.out.len]; omega))
        rw [HE.out] at HG
        obtain ⟨a', c', rfl, ho⟩ := own_row (dat := Row.dat) (sch := sRow) (k := 10) rfl (fun w x => own_Row_mk w x) (fun _ => rfl) (by rw [List.length_map]; have := HX.out.len; omega) HG.out
        have hO : OwnR B0.heap.size wr.heap.size wr sGwy [.slice a' ((xs.map (newRow m)).length) c'] (gwyDat (xs.map (newRow m))) := by
          obtain ⟨hh, B, hn, hr, ho⟩ := ho
          exact ⟨hh, B, hn, hr, own_Gwy_of ho⟩
        have HO := hid hO
        clear hO ho
        try go_wp2_with (first
            | fail
            | (
              with_reducible refine wp_region_mix (by kernel_rfl) (by decide +kernel) ?_
              repeat (first
                | (refine mix_pure rfl ?_; (first | go_big_quiet_skip | (go_big_quiet_want; go_big_quiet_op; go_big_quiet_on)); refine wpQuiet_nil ?_)
                | (refine mix_skip (by rfl) ?_; (try simp only [Act.put, List.setIfInBounds_toArray, List.set_cons_zero, List.set_cons_succ]))
                | (refine mix_mk rfl (by rfl) (fun K hK => ?_); (first | (go_simp; first | skip)); (show K _ _); refine hK _ _ (show Ext _ _ from (by ((try simp only [ext_drew]); (try simp only [ext_ext]); repeat (first | exact Ext.refl _ | with_reducible apply Ext.add | with_reducible apply Ext.dr | apply Ext.alloc | apply Ext.ext | apply Ext.drew | refine Ext.trans ?_ (by assumption))))) ?_; clear hK K; (try simp only [Act.put, List.setIfInBounds_toArray, List.set_cons_zero, List.set_cons_succ])))
              refine mix_nil ?_)
            | (
              with_reducible refine wp_region_ext (by kernel_rfl) (by kernel_rfl) ?_
              repeat (first | go_big_quiet_skip | (go_big_quiet_want; go_big_quiet_op; first | go_big_quiet_on | (apply Exists.intro; refine ⟨fun _ => ?_, ?_⟩; (fail); (try rw [h1]); (try rw [h2]); (try rw [h3]); (try rw [h4]); (try rw [p1]); (try rw [p2]); (try rw [p3]); (try rw [p4]); (try rw [r1]); (try rw [r2]); (try rw [r3]); (try rw [r4]); (try rw [r5]); (try rw [r6]); (try rw [q3]); (try rw [q4]); (try rw [hp]); (try rw [hq]); go_big_quiet_on)))
              refine wpQuiet_nil ?_
              rintro _ ⟨tq, rfl⟩))
        refine bodyPost_ret (v := .agg #[.slice a' ((xs.map (newRow m)).length) c']) (by simp [results, Try.results60, go_sem, cT, cR, lR, lT]) rfl ?_
        rw [E.out]
        refine ⟨_, _, rfl, ?_⟩
        exact fin_same (w := w) (Ext.of_below HBl.out) HO.out (R := w.heap.size + 1) (by omega) (by omega) (by repeat (first | with_reducible exact Chg.refl _ _ | with_reducible apply Chg.drew | with_reducible apply Chg.drewl | with_reducible refine Chg.turn (by simp) | with_reducible refine Chg.both ?_ (by simp) | (with_reducible refine Chg.set ?_ (by simp) _) | with_reducible apply Chg.alloc | with_reducible apply Chg.ext))
set_option maxRecDepth 100000 in
set_option maxHeartbeats 4000000 in
theorem sGwyNew_c (m : Mp) (xs : List Wlk) (a : Option Addr) (n c : Nat) (w : World) (hx : Re w (.sl sWlk) [.slice a n c] (.l (xs.map Wlk.dat))) (hn : n ≤ 1048576) :
    Calls Try.prog 59 #[.agg #[.int .i64 m.c, .int .i64 m.w], .slice a n c] w (MadeGwy w (gnL m xs).length (gnL m xs)) := by
  have HX := hid hx
  clear hx
  cases p2 : plcOk m with
  | false =>
    have p1 : (wlkAll m xs && plcOk m) = false := by simp [p2]
    go_enter Try.func59, Try.ntmps59
    try go_wp2_with (first
        | (go_at_call 78; refine (sPlcOk_c _ _).mono ?_; rintro e w' ⟨rfl, t, rfl⟩) | (go_at_call 92; refine (sWlkListOk_c _ _ _ _ _ _ (Re.of (Hid.out (by assumption)) (by ((try simp only [ext_drew]); (try simp only [ext_ext]); repeat (first | exact Ext.refl _ | with_reducible apply Ext.add | with_reducible apply Ext.dr | apply Ext.alloc | apply Ext.ext | apply Ext.drew | refine Ext.trans ?_ (by assumption))))) (by omega)).mono ?_; rintro e w' ⟨rfl, t, rfl⟩)
        | (
          with_reducible refine wp_region_mix (by kernel_rfl) (by decide +kernel) ?_
          repeat (first
            | (refine mix_pure rfl ?_; (first | go_big_quiet_skip | (go_big_quiet_want; go_big_quiet_op; go_big_quiet_on)); refine wpQuiet_nil ?_)
            | (refine mix_skip (by rfl) ?_; (try simp only [Act.put, List.setIfInBounds_toArray, List.set_cons_zero, List.set_cons_succ]))
            | (refine mix_mk rfl (by rfl) (fun K hK => ?_); (first | (go_simp; first | (go_at_call 78; refine (sPlcOk_c _ _).mono ?_; rintro e w' ⟨rfl, t, rfl⟩) | (go_at_call 92; refine (sWlkListOk_c _ _ _ _ _ _ (Re.of (Hid.out (by assumption)) (by ((try simp only [ext_drew]); (try simp only [ext_ext]); repeat (first | exact Ext.refl _ | with_reducible apply Ext.add | with_reducible apply Ext.dr | apply Ext.alloc | apply Ext.ext | apply Ext.drew | refine Ext.trans ?_ (by assumption))))) (by omega)).mono ?_; rintro e w' ⟨rfl, t, rfl⟩) | skip)); (show K _ _); refine hK _ _ (show Ext _ _ from (by ((try simp only [ext_drew]); (try simp only [ext_ext]); repeat (first | exact Ext.refl _ | with_reducible apply Ext.add | with_reducible apply Ext.dr | apply Ext.alloc | apply Ext.ext | apply Ext.drew | refine Ext.trans ?_ (by assumption))))) ?_; clear hK K; (try simp only [Act.put, List.setIfInBounds_toArray, List.set_cons_zero, List.set_cons_succ])))
          refine mix_nil ?_)
        | (
          with_reducible refine wp_region_ext (by kernel_rfl) (by kernel_rfl) ?_
          repeat (first | go_big_quiet_skip | (go_big_quiet_want; go_big_quiet_op; first | go_big_quiet_on | (apply Exists.intro; refine ⟨fun _ => ?_, ?_⟩; ((first | (go_at_call 78; first | exact quiet_call (sPlcOk_c _ _) | exact quiet_call2 (sPlcOk_c _ _)) | (go_at_call 92; first | exact quiet_call (sWlkListOk_c _ _ _ _ _ _ (Re.of (Hid.out (by assumption)) (by ((try simp only [ext_drew]); (try simp only [ext_ext]); repeat (first | exact Ext.refl _ | with_reducible apply Ext.add | with_reducible apply Ext.dr | apply Ext.alloc | apply Ext.ext | apply Ext.drew | refine Ext.trans ?_ (by assumption))))) (by omega)) | exact quiet_call2 (sWlkListOk_c _ _ _ _ _ _ (Re.of (Hid.out (by assumption)) (by ((try simp only [ext_drew]); (try simp only [ext_ext]); repeat (first | exact Ext.refl _ | with_reducible apply Ext.add | with_reducible apply Ext.dr | apply Ext.alloc | apply Ext.ext | apply Ext.drew | refine Ext.trans ?_ (by assumption))))) (by omega))))); (try rw [h1]); (try rw [h2]); (try rw [h3]); (try rw [h4]); (try rw [p1]); (try rw [p2]); (try rw [p3]); (try rw [p4]); (try rw [r1]); (try rw [r2]); (try rw [r3]); (try rw [r4]); (try rw [r5]); (try rw [r6]); (try rw [q3]); (try rw [q4]); (try rw [hp]); (try rw [hq]); go_big_quiet_on)))
          refine wpQuiet_nil ?_
          rintro _ ⟨tq, rfl⟩))
    refine bodyPost_ret (v := .agg #[.slice none 0 0]) (by simp [results, Try.results59, go_sem]) rfl ?_
    rw [show gnL m xs = [] by rw [gnL, p1]; rfl]
    exact ⟨_, _, rfl, (by ((try simp only [ext_drew]); (try simp only [ext_ext]); repeat (first | exact Ext.refl _ | with_reducible apply Ext.add | with_reducible apply Ext.dr | apply Ext.alloc | apply Ext.ext | apply Ext.drew | refine Ext.trans ?_ (by assumption)))), Nat.le_refl _, [], by simp, by simp, own_Gwy_nil _⟩
  | true =>
    cases h1 : wlkAll m xs with
    | false =>
      have p1 : (wlkAll m xs && plcOk m) = false := by simp [h1]
      go_enter Try.func59, Try.ntmps59
      try go_wp2_with (first
          | (go_at_call 78; refine (sPlcOk_c _ _).mono ?_; rintro e w' ⟨rfl, t, rfl⟩) | (go_at_call 92; refine (sWlkListOk_c _ _ _ _ _ _ (Re.of (Hid.out (by assumption)) (by ((try simp only [ext_drew]); (try simp only [ext_ext]); repeat (first | exact Ext.refl _ | with_reducible apply Ext.add | with_reducible apply Ext.dr | apply Ext.alloc | apply Ext.ext | apply Ext.drew | refine Ext.trans ?_ (by assumption))))) (by omega)).mono ?_; rintro e w' ⟨rfl, t, rfl⟩)
          | (
            with_reducible refine wp_region_mix (by kernel_rfl) (by decide +kernel) ?_
            repeat (first
              | (refine mix_pure rfl ?_; (first | go_big_quiet_skip | (go_big_quiet_want; go_big_quiet_op; go_big_quiet_on)); refine wpQuiet_nil ?_)
              | (refine mix_skip (by rfl) ?_; (try simp only [Act.put, List.setIfInBounds_toArray, List.set_cons_zero, List.set_cons_succ]))
              | (refine mix_mk rfl (by rfl) (fun K hK => ?_); (first | (go_simp; first | (go_at_call 78; refine (sPlcOk_c _ _).mono ?_; rintro e w' ⟨rfl, t, rfl⟩) | (go_at_call 92; refine (sWlkListOk_c _ _ _ _ _ _ (Re.of (Hid.out (by assumption)) (by ((try simp only [ext_drew]); (try simp only [ext_ext]); repeat (first | exact Ext.refl _ | with_reducible apply Ext.add | with_reducible apply Ext.dr | apply Ext.alloc | apply Ext.ext | apply Ext.drew | refine Ext.trans ?_ (by assumption))))) (by omega)).mono ?_; rintro e w' ⟨rfl, t, rfl⟩) | skip)); (show K _ _); refine hK _ _ (show Ext _ _ from (by ((try simp only [ext_drew]); (try simp only [ext_ext]); repeat (first | exact Ext.refl _ | with_reducible apply Ext.add | with_reducible apply Ext.dr | apply Ext.alloc | apply Ext.ext | apply Ext.drew | refine Ext.trans ?_ (by assumption))))) ?_; clear hK K; (try simp only [Act.put, List.setIfInBounds_toArray, List.set_cons_zero, List.set_cons_succ])))
            refine mix_nil ?_)
          | (
            with_reducible refine wp_region_ext (by kernel_rfl) (by kernel_rfl) ?_
            repeat (first | go_big_quiet_skip | (go_big_quiet_want; go_big_quiet_op; first | go_big_quiet_on | (apply Exists.intro; refine ⟨fun _ => ?_, ?_⟩; ((first | (go_at_call 78; first | exact quiet_call (sPlcOk_c _ _) | exact quiet_call2 (sPlcOk_c _ _)) | (go_at_call 92; first | exact quiet_call (sWlkListOk_c _ _ _ _ _ _ (Re.of (Hid.out (by assumption)) (by ((try simp only [ext_drew]); (try simp only [ext_ext]); repeat (first | exact Ext.refl _ | with_reducible apply Ext.add | with_reducible apply Ext.dr | apply Ext.alloc | apply Ext.ext | apply Ext.drew | refine Ext.trans ?_ (by assumption))))) (by omega)) | exact quiet_call2 (sWlkListOk_c _ _ _ _ _ _ (Re.of (Hid.out (by assumption)) (by ((try simp only [ext_drew]); (try simp only [ext_ext]); repeat (first | exact Ext.refl _ | with_reducible apply Ext.add | with_reducible apply Ext.dr | apply Ext.alloc | apply Ext.ext | apply Ext.drew | refine Ext.trans ?_ (by assumption))))) (by omega))))); (try rw [h1]); (try rw [h2]); (try rw [h3]); (try rw [h4]); (try rw [p1]); (try rw [p2]); (try rw [p3]); (try rw [p4]); (try rw [r1]); (try rw [r2]); (try rw [r3]); (try rw [r4]); (try rw [r5]); (try rw [r6]); (try rw [q3]); (try rw [q4]); (try rw [hp]); (try rw [hq]); go_big_quiet_on)))
            refine wpQuiet_nil ?_
            rintro _ ⟨tq, rfl⟩))
      refine bodyPost_ret (v := .agg #[.slice none 0 0]) (by simp [results, Try.results59, go_sem]) rfl ?_
      rw [show gnL m xs = [] by rw [gnL, p1]; rfl]
      exact ⟨_, _, rfl, (by ((try simp only [ext_drew]); (try simp only [ext_ext]); repeat (first | exact Ext.refl _ | with_reducible apply Ext.add | with_reducible apply Ext.dr | apply Ext.alloc | apply Ext.ext | apply Ext.drew | refine Ext.trans ?_ (by assumption)))), Nat.le_refl _, [], by simp, by simp, own_Gwy_nil _⟩
    | true =>
      have E := hid (show gnL m xs = xs.map (newRow m) by rw [gnL, h1, p2]; rfl)
      go_enter Try.func59, Try.ntmps59
      try go_wp2_with (first
          | (go_at_call 78; refine (sPlcOk_c _ _).mono ?_; rintro e w' ⟨rfl, t, rfl⟩) | (go_at_call 92; refine (sWlkListOk_c _ _ _ _ _ _ (Re.of (Hid.out (by assumption)) (by ((try simp only [ext_drew]); (try simp only [ext_ext]); repeat (first | exact Ext.refl _ | with_reducible apply Ext.add | with_reducible apply Ext.dr | apply Ext.alloc | apply Ext.ext | apply Ext.drew | refine Ext.trans ?_ (by assumption))))) (by omega)).mono ?_; rintro e w' ⟨rfl, t, rfl⟩)
          | (
            with_reducible refine wp_region_mix (by kernel_rfl) (by decide +kernel) ?_
            repeat (first
              | (refine mix_pure rfl ?_; (first | go_big_quiet_skip | (go_big_quiet_want; go_big_quiet_op; go_big_quiet_on)); refine wpQuiet_nil ?_)
              | (refine mix_skip (by rfl) ?_; (try simp only [Act.put, List.setIfInBounds_toArray, List.set_cons_zero, List.set_cons_succ]))
              | (refine mix_mk rfl (by rfl) (fun K hK => ?_); (first | (go_simp; first | (go_at_call 78; refine (sPlcOk_c _ _).mono ?_; rintro e w' ⟨rfl, t, rfl⟩) | (go_at_call 92; refine (sWlkListOk_c _ _ _ _ _ _ (Re.of (Hid.out (by assumption)) (by ((try simp only [ext_drew]); (try simp only [ext_ext]); repeat (first | exact Ext.refl _ | with_reducible apply Ext.add | with_reducible apply Ext.dr | apply Ext.alloc | apply Ext.ext | apply Ext.drew | refine Ext.trans ?_ (by assumption))))) (by omega)).mono ?_; rintro e w' ⟨rfl, t, rfl⟩) | skip)); (show K _ _); refine hK _ _ (show Ext _ _ from (by ((try simp only [ext_drew]); (try simp only [ext_ext]); repeat (first | exact Ext.refl _ | with_reducible apply Ext.add | with_reducible apply Ext.dr | apply Ext.alloc | apply Ext.ext | apply Ext.drew | refine Ext.trans ?_ (by assumption))))) ?_; clear hK K; (try simp only [Act.put, List.setIfInBounds_toArray, List.set_cons_zero, List.set_cons_succ])))
            refine mix_nil ?_)
          | (
            with_reducible refine wp_region_ext (by kernel_rfl) (by kernel_rfl) ?_
            repeat (first | go_big_quiet_skip | (go_big_quiet_want; go_big_quiet_op; first | go_big_quiet_on | (apply Exists.intro; refine ⟨fun _ => ?_, ?_⟩; ((first | (go_at_call 78; first | exact quiet_call (sPlcOk_c _ _) | exact quiet_call2 (sPlcOk_c _ _)) | (go_at_call 92; first | exact quiet_call (sWlkListOk_c _ _ _ _ _ _ (Re.of (Hid.out (by assumption)) (by ((try simp only [ext_drew]); (try simp only [ext_ext]); repeat (first | exact Ext.refl _ | with_reducible apply Ext.add | with_reducible apply Ext.dr | apply Ext.alloc | apply Ext.ext | apply Ext.drew | refine Ext.trans ?_ (by assumption))))) (by omega)) | exact quiet_call2 (sWlkListOk_c _ _ _ _ _ _ (Re.of (Hid.out (by assumption)) (by ((try simp only [ext_drew]); (try simp only [ext_ext]); repeat (first | exact Ext.refl _ | with_reducible apply Ext.add | with_reducible apply Ext.dr | apply Ext.alloc | apply Ext.ext | apply Ext.drew | refine Ext.trans ?_ (by assumption))))) (by omega))))); (try rw [h1]); (try rw [h2]); (try rw [h3]); (try rw [h4]); (try rw [p1]); (try rw [p2]); (try rw [p3]); (try rw [p4]); (try rw [r1]); (try rw [r2]); (try rw [r3]); (try rw [r4]); (try rw [r5]); (try rw [r6]); (try rw [q3]); (try rw [q4]); (try rw [hp]); (try rw [hq]); go_big_quiet_on)))
            refine wpQuiet_nil ?_
            rintro _ ⟨tq, rfl⟩))
      refine wp_gen fun B0 hB0 => ?_
      generalize hTe : w.heap.size + 1 + 1 = T
      have EB : Ext w B0 := by rw [hB0]; ((try simp only [ext_drew]); (try simp only [ext_ext]); repeat (first | exact Ext.refl _ | with_reducible apply Ext.add | with_reducible apply Ext.dr | apply Ext.alloc | apply Ext.ext | apply Ext.drew | refine Ext.trans ?_ (by assumption)))
      have hTw : w.heap.size + 1 + 1 ≤ T := by omega
      have hT0 : B0.heap[T]? = some (.cells #[.slice none 0 0] 81 (0, 0)) := by rw [hB0]; exact blk_ext (alloc_last (by rw [← hTe]; simp [go_sem]))
      have lB0 : T < B0.heap.size := lt_blk hT0
      have bM0 : B0.cell? ⟨w.heap.size, 0, none⟩ = some (.int .i64 m.c) := by rw [hB0]; simp [go_sem]
      have bM1 : B0.cell? ⟨w.heap.size, 1, none⟩ = some (.int .i64 m.w) := by rw [hB0]; simp [go_sem]
      have bR : B0.cell? ⟨w.heap.size + 1, 0, none⟩ = some (.slice none 0 0) := by rw [hB0]; simp [go_sem]
      have bRz : B0.frozen? ⟨w.heap.size + 1, 0, none⟩ = false := by rw [hB0]; simp [go_sem]
      have lT0 : T < B0.heap.size := lB0
      clear hB0 hTe
      have HB0 := hid hT0
      go_loopw [6] (fun i wr => ∃ (k : Nat) (v : Value), k ≤ n ∧ i = .int .i64 k ∧ wr.heap[T]? = some (.cells #[v] 81 (0, 0)) ∧ wr.ownsRow B0.heap.size 119 10 v ((xs.take k).map (newRow m)).length (((xs.take k).map (newRow m)).flatMap Row.cells) ∧ Chg [T] B0 wr) (fun i _ => n - (intOf i).toNat)
      case atStart => exact ⟨0, .slice none 0 0, Nat.zero_le _, rfl, HB0.out, by simpa using World.ownsRow_nil _ _ _ _, Chg.refl _ _⟩
      case round =>
        obtain ⟨k, v, hk, rfl, hT, hrow, hch⟩ := hrel
        have HG := hid hrow
        have HC := hid hch
        have hsz := hch.size
        have lT : T < wr.heap.size := lt_blk hT
        have cT : wr.cell? ⟨T, 0, none⟩ = some v := (cell_blk hT 0).trans rfl
        have zT := frozen_blk hT 0
        have lM : w.heap.size < wr.heap.size := by omega
        have cM0 : wr.cell? ⟨w.heap.size, 0, none⟩ = some (.int .i64 m.c) := (hch.cell (by omega) (by simp; omega) 0).trans bM0
        have cM1 : wr.cell? ⟨w.heap.size, 1, none⟩ = some (.int .i64 m.w) := (hch.cell (by omega) (by simp; omega) 1).trans bM1
        have cR : wr.cell? ⟨w.heap.size + 1, 0, none⟩ = some (.slice none 0 0) := (hch.cell (by omega) (by simp; omega) 0).trans bR
        have zR : wr.frozen? ⟨w.heap.size + 1, 0, none⟩ = false := (Chg.frozen hch (by omega) (by simp; omega) 0).trans bRz
        have lR : w.heap.size + 1 < wr.heap.size := by omega
        have hbel : Below w.heap.size w wr := Below.chg (w0 := w) EB.below hch (fun b hb => by
          obtain rfl : b = T := by simpa using hb
          omega)
        have HXr := hid (Re.below HX.out hbel)
        have HBl := hid hbel
        have HTb := hid hT
        clear hT hrow hch hbel
        by_cases hlt : k < n
        · obtain ⟨x, b1, o1, hxk, rfl, hb1, f0, f1, f2, f3, f4⟩ := at_Wlk HX.out hlt
          have hq : ∀ o, wr.cell? ⟨b1, o, none⟩ = w.cell? ⟨b1, o, none⟩ := fun o => World.cell?_of_block (a := ⟨b1, o, none⟩) (HBl.out.block b1 hb1)
          rw [← hq] at f0 f1 f2 f3 f4
          clear hq
          have lb1 : b1 < wr.heap.size := by omega
          have HK := hid hxk
          clear hxk
          obtain ⟨R, hR, hBR, hRc⟩ := row_block v B0.heap.size 0 HG.out hsz
          have hTR : T ≠ R := by omega
          have hRT : R ≠ T := by omega
          have hcR : wr.heap.size ≠ R := Ne.symm hRc
          have hMR : w.heap.size ≠ R := by omega
          have hbR : b1 ≠ R := by omega
          have HRr := hid hR
          have dT : ∀ t, (ext wr.drew t).cell? ⟨T, 0, none⟩ = some v := fun t => (ext_cell' _ _ _ _ lT).trans cT
          have dZ : ∀ t, (ext wr.drew t).frozen? ⟨T, 0, none⟩ = false := fun t => (ext_frozen' _ _ _ _ lT).trans zT
          have hlen : ((xs.take k).map (newRow m)).length ≤ 4194304 := by rw [List.length_map, List.length_take]; omega
          clear hR
          try go_wp2_with (first
              | (go_at_call 93; refine (sPlcCell_c _ _ _).mono ?_; rintro e w' ⟨rfl, t, rfl⟩) | (refine wp_appR_Row R B0.heap.size _ _ rfl rfl (by (try simp [go_sem]) <;> (try simp [Xt.add]) <;> omega) (by repeat (first | with_reducible apply ownsRow_alloc | exact HG.out | with_reducible apply ownsRow_drew | with_reducible apply ownsRow_ext)) HRr.out (newRow m x) rfl (alloc_last (by simp [go_sem])) hlen ?_; intro v2 w2 hg2 hc2; obtain ⟨sa, sn, sc, rfl⟩ := row_slice hg2; have HG2 := hid hg2; have HC2 := hid hc2; have l2 : T < w2.heap.size := Nat.lt_of_lt_of_le (by (try simp [go_sem]) <;> (try simp [Xt.add]) <;> omega) hc2.size; have q2 : w2.cell? ⟨T, 0, none⟩ = some v := (hc2.cell (by (try simp [go_sem]) <;> (try simp [Xt.add]) <;> omega) (by simp [hTR]) 0).trans (by simp [go_sem, cT, lT, dT]); have b2 : w2.heap[T]? = some (.cells #[v] 81 (0, 0)) := (hc2.block T (by (try simp [go_sem]) <;> (try simp [Xt.add]) <;> omega) (by simp [hTR])).trans (by repeat (first | with_reducible exact HTb.out | with_reducible apply blk_drew | with_reducible refine blk_set ?_ | (with_reducible refine blk_other ?_ (by first | assumption | omega)) | with_reducible refine blk_ext ?_ | with_reducible refine blk_alloc ?_)); have z2 : w2.frozen? ⟨T, 0, none⟩ = false := (Chg.frozen hc2 (by (try simp [go_sem]) <;> (try simp [Xt.add]) <;> omega) (by simp [hTR]) 0).trans (by simp [go_sem, zT, lT, dZ]); have B2 := hid b2; clear hg2 hc2 b2)
              | (
                with_reducible refine wp_region_NR (R) (by kernel_rfl) (by decide +kernel) (by decide +kernel) rfl rfl ?_
                simp only [List.dropLast_cons_cons, List.dropLast_singleton]
                repeat (first
                  | (refine mix_pure rfl ?_; (first | go_big_quiet_skip | (go_big_quiet_want; go_big_quiet_op; go_big_quiet_on)); refine wpQuiet_nil ?_)
                  | (refine mix_skip (by rfl) ?_; (try simp only [Act.put, List.setIfInBounds_toArray, List.set_cons_zero, List.set_cons_succ]))
                  | (refine mix_mk rfl (by rfl) (fun K hK => ?_); (first | (refine wp_appR_Row R B0.heap.size _ _ rfl rfl (by (try simp [go_sem]) <;> (try simp [Xt.add]) <;> omega) (by repeat (first | with_reducible apply ownsRow_alloc | exact HG.out | with_reducible apply ownsRow_drew | with_reducible apply ownsRow_ext)) HRr.out (newRow m x) rfl (alloc_last (by simp [go_sem])) hlen ?_; intro v2 w2 hg2 hc2; obtain ⟨sa, sn, sc, rfl⟩ := row_slice hg2; have HG2 := hid hg2; have HC2 := hid hc2; have l2 : T < w2.heap.size := Nat.lt_of_lt_of_le (by (try simp [go_sem]) <;> (try simp [Xt.add]) <;> omega) hc2.size; have q2 : w2.cell? ⟨T, 0, none⟩ = some v := (hc2.cell (by (try simp [go_sem]) <;> (try simp [Xt.add]) <;> omega) (by simp [hTR]) 0).trans (by simp [go_sem, cT, lT, dT]); have b2 : w2.heap[T]? = some (.cells #[v] 81 (0, 0)) := (hc2.block T (by (try simp [go_sem]) <;> (try simp [Xt.add]) <;> omega) (by simp [hTR])).trans (by repeat (first | with_reducible exact HTb.out | with_reducible apply blk_drew | with_reducible refine blk_set ?_ | (with_reducible refine blk_other ?_ (by first | assumption | omega)) | with_reducible refine blk_ext ?_ | with_reducible refine blk_alloc ?_)); have z2 : w2.frozen? ⟨T, 0, none⟩ = false := (Chg.frozen hc2 (by (try simp [go_sem]) <;> (try simp [Xt.add]) <;> omega) (by simp [hTR]) 0).trans (by simp [go_sem, zT, lT, dZ]); have B2 := hid b2; clear hg2 hc2 b2) | (go_simp; first | (go_at_call 93; refine (sPlcCell_c _ _ _).mono ?_; rintro e w' ⟨rfl, t, rfl⟩) | skip)); (show K _ _); refine hK _ _ (extR_of (by repeat (first | with_reducible exact Chg.refl _ _ | with_reducible apply Chg.drew | with_reducible apply Chg.drewl | with_reducible refine Chg.turn (by simp) | with_reducible refine Chg.both ?_ (by simp) | (with_reducible refine Chg.set ?_ (by simp) _) | with_reducible apply Chg.alloc | with_reducible apply Chg.ext | with_reducible refine Chg.trans ?_ (Hid.out (by assumption))))) ?_; clear hK K; (try simp only [Act.put, List.setIfInBounds_toArray, List.set_cons_zero, List.set_cons_succ])))
                refine mixN_nil (fun K hK => ?_)
                go_simp
                (show K _ _)
                refine hK _ _ ?_
                clear hK K
                (try simp only [Act.put, List.setIfInBounds_toArray, List.set_cons_zero, List.set_cons_succ])))
          go_roundw
          case rel =>
            refine ⟨k + 1, .slice sa sn sc, by omega, by go_num, (by exact blk_set B2.out), ?_, Chg.set (Chg.up (by repeat (first | with_reducible exact HC.out | with_reducible apply Chg.drew | with_reducible apply Chg.alloc | with_reducible apply Chg.ext)) HC2.out (by simp; omega)) (by simp) _⟩
            rw [take_map_snoc HK.out]
            exact ownsRow_chg HG2.out ((Chg.refl [T] w2).set (by simp) _) (by simp; omega)
          case measure => simp [intOf]; omega
        · have HE := hid (show xs.take k = xs from List.take_of_length_le (by rw [← HX.out.len]; omega))
          rw [HE.out] at HG
          obtain ⟨a', c', rfl, ho⟩ := own_row (dat := Row.dat) (sch := sRow) (k := 10) rfl (fun w x => own_Row_mk w x) (fun _ => rfl) (by rw [List.length_map]; have := HX.out.len; omega) HG.out
          have hO : OwnR B0.heap.size wr.heap.size wr sGwy [.slice a' ((xs.map (newRow m)).length) c'] (gwyDat (xs.map (newRow m))) := by
            obtain ⟨hh, B, hn, hr, ho⟩ := ho
            exact ⟨hh, B, hn, hr, own_Gwy_of ho⟩
          have HO := hid hO
          clear hO ho
          try go_wp2_with (first
              | fail
              | (
                with_reducible refine wp_region_mix (by kernel_rfl) (by decide +kernel) ?_
                repeat (first
                  | (refine mix_pure rfl ?_; (first | go_big_quiet_skip | (go_big_quiet_want; go_big_quiet_op; go_big_quiet_on)); refine wpQuiet_nil ?_)
                  | (refine mix_skip (by rfl) ?_; (try simp only [Act.put, List.setIfInBounds_toArray, List.set_cons_zero, List.set_cons_succ]))
                  | (refine mix_mk rfl (by rfl) (fun K hK => ?_); (first | (go_simp; first | skip)); (show K _ _); refine hK _ _ (show Ext _ _ from (by ((try simp only [ext_drew]); (try simp only [ext_ext]); repeat (first | exact Ext.refl _ | with_reducible apply Ext.add | with_reducible apply Ext.dr | apply Ext.alloc | apply Ext.ext | apply Ext.drew | refine Ext.trans ?_ (by assumption))))) ?_; clear hK K; (try simp only [Act.put, List.setIfInBounds_toArray, List.set_cons_zero, List.set_cons_succ])))
                refine mix_nil ?_)
              | (
                with_reducible refine wp_region_ext (by kernel_rfl) (by kernel_rfl) ?_
                repeat (first | go_big_quiet_skip | (go_big_quiet_want; go_big_quiet_op; first | go_big_quiet_on | (apply Exists.intro; refine ⟨fun _ => ?_, ?_⟩; (fail); (try rw [h1]); (try rw [h2]); (try rw [h3]); (try rw [h4]); (try rw [p1]); (try rw [p2]); (try rw [p3]); (try rw [p4]); (try rw [r1]); (try rw [r2]); (try rw [r3]); (try rw [r4]); (try rw [r5]); (try rw [r6]); (try rw [q3]); (try rw [q4]); (try rw [hp]); (try rw [hq]); go_big_quiet_on)))
                refine wpQuiet_nil ?_
                rintro _ ⟨tq, rfl⟩))
          refine bodyPost_ret (v := .agg #[.slice a' ((xs.map (newRow m)).length) c']) (by simp [results, Try.results59, go_sem, cT, cR, lR, lT]) rfl ?_
          rw [E.out]
          refine ⟨_, _, rfl, ?_⟩
          exact fin_same (w := w) (Ext.of_below HBl.out) HO.out (R := w.heap.size + 1) (by omega) (by omega) (by repeat (first | with_reducible exact Chg.refl _ _ | with_reducible apply Chg.drew | with_reducible apply Chg.drewl | with_reducible refine Chg.turn (by simp) | with_reducible refine Chg.both ?_ (by simp) | (with_reducible refine Chg.set ?_ (by simp) _) | with_reducible apply Chg.alloc | with_reducible apply Chg.ext))
end Go.Proofs.Ytaepmhoedaogkaa
