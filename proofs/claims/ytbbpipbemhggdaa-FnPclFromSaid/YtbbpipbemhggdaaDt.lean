/- Lists of parcels are drawn. -/
import Derived.Test.YtbbpipbemhggdaaDs
namespace Go.Proofs.Ytbbpipbemhggdaa
open Go.RowKit
set_option linter.unusedSimpArgs false
set_option linter.unusedVariables false

/-- A list of parcels in memory of its own, made behind b0. -/
def LstP (b0 : Nat) (w : World) (v : Value) (xs : List Pcl) : Prop := ∃ B, RowX w 91 8 Pcl.cells v xs B ∧ (∀ b ∈ B, b0 ≤ b)
theorem LstP.chg {b0 : Nat} {w w' : World} {v : Value} {xs : List Pcl} {B' : List Nat} (h : LstP b0 w v xs) (hc : Chg B' w w') (hB' : ∀ b ∈ B', b < b0) : LstP b0 w' v xs := by
  obtain ⟨B, h2, h3⟩ := h
  exact ⟨B, h2.chg hc (fun b hb hm => by have := h3 b hb; have := hB' b hm; omega), h3⟩
theorem LstP.of {b0 : Nat} {w w' : World} {v : Value} {xs : List Pcl} (h : LstP b0 w v xs) (hE : Ext w w') : LstP b0 w' v xs := h.chg (Chg.of_ext hE []) (by simp)
theorem LstP.le {b0 b1 : Nat} {w : World} {v : Value} {xs : List Pcl} (h : LstP b0 w v xs) (hb : b1 ≤ b0) : LstP b1 w v xs := by
  obtain ⟨B, h2, h3⟩ := h
  exact ⟨B, h2, fun b hm => Nat.le_trans hb (h3 b hm)⟩
theorem rowP_re {w : World} {v : Value} {xs : List Pcl} {B : List Nat} (h : RowX w 91 8 Pcl.cells v xs B) : Re w (.sl sPcl) [v] (.l (xs.map Pcl.dat)) := (h.own (k := 8) rfl (fun w x => own_Pcl_mk w x)).re h.lt
def pclArr (arr : Array Value) (k : Nat) (y : Pcl) : Array Value := ((((((((arr.setIfInBounds (k * 8) (.int .i64 y.n)).setIfInBounds (k * 8 + 1) (.int .i64 y.kind)).setIfInBounds (k * 8 + 2) (.int .i64 y.wk.id)).setIfInBounds (k * 8 + 3) (.int .i64 y.wk.at_)).setIfInBounds (k * 8 + 4) (.int .i64 y.wk.coins)).setIfInBounds (k * 8 + 5) (.int .i64 y.wk.seq)).setIfInBounds (k * 8 + 6) (.int .i64 y.wk.last)).setIfInBounds (k * 8 + 7) (.int .i64 y.coins))
theorem pclArr_ok {arr : Array Value} {k : Nat} {y : Pcl} (hsz : k * 8 + 8 ≤ arr.size) :
    (pclArr arr k y).size = arr.size ∧ (∀ i, ¬ (k * 8 ≤ i ∧ i < k * 8 + 8) → (pclArr arr k y)[i]? = arr[i]?) ∧ (∀ i v, y.cells[i]? = some v → (pclArr arr k y)[k * 8 + i]? = some v) := by
  unfold pclArr
  refine ⟨by simp, fun i hi => ?_, fun i v hv => ?_⟩
  · repeat (with_reducible refine wkO (by omega) ?_)
    rfl
  · match i, hv with
    | 0, hv =>
      repeat (with_reducible refine wkO (by omega) ?_)
      exact (wkA (by omega) (by (try simp only [Array.size_setIfInBounds]); omega)).trans hv
    | 1, hv =>
      repeat (with_reducible refine wkO (by omega) ?_)
      exact (wkA (by omega) (by (try simp only [Array.size_setIfInBounds]); omega)).trans hv
    | 2, hv =>
      repeat (with_reducible refine wkO (by omega) ?_)
      exact (wkA (by omega) (by (try simp only [Array.size_setIfInBounds]); omega)).trans hv
    | 3, hv =>
      repeat (with_reducible refine wkO (by omega) ?_)
      exact (wkA (by omega) (by (try simp only [Array.size_setIfInBounds]); omega)).trans hv
    | 4, hv =>
      repeat (with_reducible refine wkO (by omega) ?_)
      exact (wkA (by omega) (by (try simp only [Array.size_setIfInBounds]); omega)).trans hv
    | 5, hv =>
      repeat (with_reducible refine wkO (by omega) ?_)
      exact (wkA (by omega) (by (try simp only [Array.size_setIfInBounds]); omega)).trans hv
    | 6, hv =>
      repeat (with_reducible refine wkO (by omega) ?_)
      exact (wkA (by omega) (by (try simp only [Array.size_setIfInBounds]); omega)).trans hv
    | 7, hv =>
      repeat (with_reducible refine wkO (by omega) ?_)
      exact (wkA (by omega) (by (try simp only [Array.size_setIfInBounds]); omega)).trans hv
set_option maxRecDepth 100000 in
set_option maxHeartbeats 8000000 in
theorem l20Parcels_c (lo p Q : Nat) (m : Mp) (w : World) (h : Rdr lo p Q w) (hQ : Q ≤ 80000) (hm : MapIn m) :
    Calls Try.prog 65 #[.pointer (some ⟨p, 0, none⟩), .agg #[.int .i64 m.c, .int .i64 m.w]] w fun e w' => ∃ (v : Value) (xs : List Pcl) (nx : Int), e = .returned (.tuple #[v, .int .i64 nx]) ∧ LstP w.heap.size w' v xs ∧ xs.length ≤ 3 ∧ (-10 ≤ nx ∧ nx ≤ 5010) ∧ Rdr lo p (Q + 800) w' ∧ Chg [p] w w' := by
  have lP := h.lt
  have hlo := h.lo
  have HR := hid h
  have HM := hid hm
  clear h hm
  go_enter Try.func65, Try.ntmps65
  try go_wp2_with (first
      | fail
      | (
        with_reducible refine wp_region_mix (by kernel_rfl) (by decide +kernel) ?_
        repeat (first
          | (refine mix_pure rfl ?_; (first | go_big_quiet_skip | (go_big_quiet_want; go_big_quiet_op; go_big_quiet_on)); refine wpQuiet_nil ?_)
          | (refine mix_skip (by rfl) ?_; (try simp only [Act.put, List.setIfInBounds_toArray, List.set_cons_zero, List.set_cons_succ]))
          | (refine mix_mk rfl (by rfl) (fun K hK => ?_); (first | (go_simp; first | skip)); (show K _ _); refine hK _ _ (show Ext _ _ from (by ((try simp only [ext_drew]); (try simp only [ext_ext]); repeat (first | exact Ext.refl _ | with_reducible apply Ext.add | with_reducible apply Ext.dr | apply Ext.alloc | apply Ext.ext | apply Ext.drew | refine Ext.trans ?_ (by assumption))))) ?_; clear hK K; (try simp only [Act.put, List.setIfInBounds_toArray, List.set_cons_zero, List.set_cons_succ])))
        refine mix_nil ?_)
      | (
        with_reducible refine wp_region_ext (by kernel_rfl) (by kernel_rfl) ?_
        repeat (first | go_big_quiet_skip | (go_big_quiet_want; go_big_quiet_op; first | go_big_quiet_on | (apply Exists.intro; refine ⟨fun _ => ?_, ?_⟩; (fail); (try rw [h1]); (try rw [h2]); (try rw [h3]); (try rw [h4]); (try rw [p1]); (try rw [p2]); (try rw [p3]); (try rw [p4]); (try rw [r1]); (try rw [r2]); (try rw [r3]); (try rw [r4]); (try rw [r5]); (try rw [r6]); (try rw [q3]); (try rw [q4]); (try rw [hp]); (try rw [hq]); go_big_quiet_on)))
        refine wpQuiet_nil ?_
        rintro _ ⟨tq, rfl⟩))
  refine calls_gen fun X hX => ?_
  obtain ⟨M, hMe⟩ : ∃ M, w.heap.size = M := ⟨_, rfl⟩
  have EX : Ext w X := by rw [hX]; ((try simp only [ext_drew]); (try simp only [ext_ext]); repeat (first | exact Ext.refl _ | with_reducible apply Ext.add | with_reducible apply Ext.dr | apply Ext.alloc | apply Ext.ext | apply Ext.drew | refine Ext.trans ?_ (by assumption)))
  have bm : X.heap[M]? = some (oMp m) := by rw [hX, ← hMe]; exact (by repeat (first | exact alloc_last (by (try simp [go_sem]) <;> (try simp [Xt.add]) <;> omega) | with_reducible refine blk_alloc ?_ | with_reducible refine blk_ext ?_ | with_reducible apply blk_drew))
  have lM := lt_blk bm
  obtain ⟨A, hA⟩ : ∃ A, w.heap.size + 1 + 1 = A := ⟨_, rfl⟩
  obtain ⟨S, hS⟩ : ∃ S, w.heap.size + 1 = S := ⟨_, rfl⟩
  have ba : X.heap[A]? = some (.cells #[.int .i64 0, .int .i64 1, .int .i64 5, .int .i64 4998] 3 (0, 0)) := by rw [hX, ← hA]; exact (by repeat (first | exact alloc_last (by (try simp [go_sem]) <;> (try simp [Xt.add]) <;> omega) | with_reducible refine blk_alloc ?_ | with_reducible refine blk_ext ?_ | with_reducible apply blk_drew))
  rw [hA, hS, hMe]
  have hMp : M ≠ p := by omega
  have hAp : A ≠ p := by omega
  have hwM : w.heap.size ≤ M := by omega
  have HRX := hid (HR.out.of EX)
  have HEX := hid EX
  clear hX EX hS hMe hA HR
  refine (pick_c lo p Q 4 X HRX.out (by omega) (by omega) (by omega)).mono ?_
  rintro e Y ⟨v, rfl, hv0, hv1, hRY, hCY⟩
  obtain ⟨i0, rfl⟩ : ∃ i : Nat, v = (i : Int) := ⟨v.toNat, by omega⟩
  have bmY := (hCY.block M lM (by simpa using hMp)).trans bm
  have baY := (hCY.block A (lt_blk ba) (by simpa using hAp)).trans ba
  obtain ⟨n0, hyx, hyc⟩ := arr_at (xs := [0, 1, 5, 4998]) (i := i0) baY (by simp; omega)
  have hn0 : 0 ≤ n0 ∧ n0 ≤ 4998 := by simp at hyx; omega
  have HC0 := hid ((Chg.of_ext HEX.out [p]).trans hCY)
  have HRY := hid hRY
  have HBM := hid bmY
  have la := lt_blk baY
  have za := frozen_blk baY i0
  have hin : (i0 : Int) < 4 := by omega
  clear bm lM ba baY hRY hCY HRX HEX hv0 hv1 bmY hyx
  try go_wp2_with (first
      | fail
      | (
        with_reducible refine wp_region_mix (by kernel_rfl) (by decide +kernel) ?_
        repeat (first
          | (refine mix_pure rfl ?_; (first | go_big_quiet_skip | (go_big_quiet_want; go_big_quiet_op; go_big_quiet_on)); refine wpQuiet_nil ?_)
          | (refine mix_skip (by rfl) ?_; (try simp only [Act.put, List.setIfInBounds_toArray, List.set_cons_zero, List.set_cons_succ]))
          | (refine mix_mk rfl (by rfl) (fun K hK => ?_); (first | (go_simp; first | skip)); (show K _ _); refine hK _ _ (show Ext _ _ from (by ((try simp only [ext_drew]); (try simp only [ext_ext]); repeat (first | exact Ext.refl _ | with_reducible apply Ext.add | with_reducible apply Ext.dr | apply Ext.alloc | apply Ext.ext | apply Ext.drew | refine Ext.trans ?_ (by assumption))))) ?_; clear hK K; (try simp only [Act.put, List.setIfInBounds_toArray, List.set_cons_zero, List.set_cons_succ])))
        refine mix_nil ?_)
      | (
        with_reducible refine wp_region_ext (by kernel_rfl) (by kernel_rfl) ?_
        repeat (first | go_big_quiet_skip | (go_big_quiet_want; go_big_quiet_op; first | go_big_quiet_on | (apply Exists.intro; refine ⟨fun _ => ?_, ?_⟩; (fail); (try rw [h1]); (try rw [h2]); (try rw [h3]); (try rw [h4]); (try rw [p1]); (try rw [p2]); (try rw [p3]); (try rw [p4]); (try rw [r1]); (try rw [r2]); (try rw [r3]); (try rw [r4]); (try rw [r5]); (try rw [r6]); (try rw [q3]); (try rw [q4]); (try rw [hp]); (try rw [hq]); go_big_quiet_on)))
        refine wpQuiet_nil ?_
        rintro _ ⟨tq, rfl⟩))
  refine calls_gen fun X hX => ?_
  have EX : Ext Y X := by rw [hX]; ((try simp only [ext_drew]); (try simp only [ext_ext]); repeat (first | exact Ext.refl _ | with_reducible apply Ext.add | with_reducible apply Ext.dr | apply Ext.alloc | apply Ext.ext | apply Ext.drew | refine Ext.trans ?_ (by assumption)))
  have bm := (EX.block (lt_blk HBM.out)).trans HBM.out
  have HRX := hid (HRY.out.of EX)
  have HCX := hid (HC0.out.trans (Chg.of_ext EX [p]))
  clear hX EX HBM HRY HC0 la za hin hyc
  refine (pick_c lo p (Q + 1) 4 X HRX.out (by omega) (by omega) (by omega)).mono ?_
  rintro e Y ⟨v, rfl, hv0, hv1, hRY, hCY⟩
  obtain ⟨k0, rfl⟩ : ∃ i : Nat, v = (i : Int) := ⟨v.toNat, by omega⟩
  have hk0 : k0 ≤ 3 := by omega
  have bmY := (hCY.block M (lt_blk bm) (by simpa using hMp)).trans bm
  have HC0 := hid (HCX.out.trans hCY)
  have HRY := hid hRY
  have HBM := hid bmY
  clear bm hRY hCY HRX HCX hv0 hv1 bmY
  try go_wp2_with (first
      | fail
      | (
        with_reducible refine wp_region_mix (by kernel_rfl) (by decide +kernel) ?_
        repeat (first
          | (refine mix_pure rfl ?_; (first | go_big_quiet_skip | (go_big_quiet_want; go_big_quiet_op; go_big_quiet_on)); refine wpQuiet_nil ?_)
          | (refine mix_skip (by rfl) ?_; (try simp only [Act.put, List.setIfInBounds_toArray, List.set_cons_zero, List.set_cons_succ]))
          | (refine mix_mk rfl (by rfl) (fun K hK => ?_); (first | (go_simp; first | skip)); (show K _ _); refine hK _ _ (show Ext _ _ from (by ((try simp only [ext_drew]); (try simp only [ext_ext]); repeat (first | exact Ext.refl _ | with_reducible apply Ext.add | with_reducible apply Ext.dr | apply Ext.alloc | apply Ext.ext | apply Ext.drew | refine Ext.trans ?_ (by assumption))))) ?_; clear hK K; (try simp only [Act.put, List.setIfInBounds_toArray, List.set_cons_zero, List.set_cons_succ])))
        refine mix_nil ?_)
      | (
        with_reducible refine wp_region_ext (by kernel_rfl) (by kernel_rfl) ?_
        repeat (first | go_big_quiet_skip | (go_big_quiet_want; go_big_quiet_op; first | go_big_quiet_on | (apply Exists.intro; refine ⟨fun _ => ?_, ?_⟩; (fail); (try rw [h1]); (try rw [h2]); (try rw [h3]); (try rw [h4]); (try rw [p1]); (try rw [p2]); (try rw [p3]); (try rw [p4]); (try rw [r1]); (try rw [r2]); (try rw [r3]); (try rw [r4]); (try rw [r5]); (try rw [r6]); (try rw [q3]); (try rw [q4]); (try rw [hp]); (try rw [hq]); go_big_quiet_on)))
        refine wpQuiet_nil ?_
        rintro _ ⟨tq, rfl⟩))
  go_loopw [6, 7, 8, 9] (fun v nv i _ wr => ∃ (k : Nat) (xs : List Pcl) (a : Option Addr) (c : Nat) (B : List Nat) (nx : Int), k ≤ 3 ∧ i = .int .i64 k ∧ v = .slice a xs.length c ∧ nv = .int .i64 nx ∧ 0 ≤ nx ∧ nx + k ≤ 5001 ∧ xs.length + k ≤ 3 ∧ RowX wr 91 8 Pcl.cells (.slice a xs.length c) xs B ∧ (∀ b ∈ B, M < b) ∧ Rdr lo p (Q + 2 + 161 * (3 - k)) wr ∧ Chg [p] w wr ∧ wr.heap[M]? = some (oMp m)) (fun _ _ i _ _ => (intOf i).toNat)
  case atStart => exact ⟨k0, [], _, _, [], n0, hk0, rfl, rfl, rfl, by omega, by omega, by simpa using hk0, .inl ⟨rfl, rfl, _, rfl, .inr ⟨_, rfl⟩⟩, by simp, (HRY.out.of (by ((try simp only [ext_drew]); (try simp only [ext_ext]); repeat (first | exact Ext.refl _ | with_reducible apply Ext.add | with_reducible apply Ext.dr | apply Ext.alloc | apply Ext.ext | apply Ext.drew | refine Ext.trans ?_ (by assumption))))).up (by omega), HC0.out.trans (Chg.of_ext (by ((try simp only [ext_drew]); (try simp only [ext_ext]); repeat (first | exact Ext.refl _ | with_reducible apply Ext.add | with_reducible apply Ext.dr | apply Ext.alloc | apply Ext.ext | apply Ext.drew | refine Ext.trans ?_ (by assumption)))) [p]), (by repeat (first | with_reducible exact HBM.out | with_reducible apply blk_drew | with_reducible refine blk_set ?_ | (with_reducible refine blk_other ?_ (by first | assumption | omega)) | with_reducible refine blk_ext ?_ | with_reducible refine blk_alloc ?_))⟩
  case round =>
    obtain ⟨k, xs, a, c, B, nx, hk, rfl, rfl, rfl, hx0, hx1, hxk, hrow, hB, hR, hC, bM⟩ := hrel
    have HROW := hid hrow
    have HB := hid hB
    have HR := hid hR
    have HC := hid hC
    have cM0 : wr.cell? ⟨M, 0, none⟩ = some (.int .i64 m.c) := (cell_blk bM 0).trans rfl
    have cM1 : wr.cell? ⟨M, 1, none⟩ = some (.int .i64 m.w) := (cell_blk bM 1).trans rfl
    have lM := lt_blk bM
    have HBM := hid bM
    clear hrow hB hR hC bM
    by_cases hk1 : 0 < k
    · try go_wp2_with (first
          | fail
          | (
            with_reducible refine wp_region_mix (by kernel_rfl) (by decide +kernel) ?_
            repeat (first
              | (refine mix_pure rfl ?_; (first | go_big_quiet_skip | (go_big_quiet_want; go_big_quiet_op; go_big_quiet_on)); refine wpQuiet_nil ?_)
              | (refine mix_skip (by rfl) ?_; (try simp only [Act.put, List.setIfInBounds_toArray, List.set_cons_zero, List.set_cons_succ]))
              | (refine mix_mk rfl (by rfl) (fun K hK => ?_); (first | (go_simp; first | skip)); (show K _ _); refine hK _ _ (show Ext _ _ from (by ((try simp only [ext_drew]); (try simp only [ext_ext]); repeat (first | exact Ext.refl _ | with_reducible apply Ext.add | with_reducible apply Ext.dr | apply Ext.alloc | apply Ext.ext | apply Ext.drew | refine Ext.trans ?_ (by assumption))))) ?_; clear hK K; (try simp only [Act.put, List.setIfInBounds_toArray, List.set_cons_zero, List.set_cons_succ])))
            refine mix_nil ?_)
          | (
            with_reducible refine wp_region_ext (by kernel_rfl) (by kernel_rfl) ?_
            repeat (first | go_big_quiet_skip | (go_big_quiet_want; go_big_quiet_op; first | go_big_quiet_on | (apply Exists.intro; refine ⟨fun _ => ?_, ?_⟩; (fail); (try rw [h1]); (try rw [h2]); (try rw [h3]); (try rw [h4]); (try rw [p1]); (try rw [p2]); (try rw [p3]); (try rw [p4]); (try rw [r1]); (try rw [r2]); (try rw [r3]); (try rw [r4]); (try rw [r5]); (try rw [r6]); (try rw [q3]); (try rw [q4]); (try rw [hp]); (try rw [hq]); go_big_quiet_on)))
            refine wpQuiet_nil ?_
            rintro _ ⟨tq, rfl⟩))
      refine calls_gen fun X hX => ?_
      have EX : Ext wr X := by rw [hX]; ((try simp only [ext_drew]); (try simp only [ext_ext]); repeat (first | exact Ext.refl _ | with_reducible apply Ext.add | with_reducible apply Ext.dr | apply Ext.alloc | apply Ext.ext | apply Ext.drew | refine Ext.trans ?_ (by assumption)))
      have hrX := hid (HROW.out.of EX)
      have HRX := hid (HR.out.of EX)
      have HCX := hid (HC.out.trans (Chg.of_ext EX [p]))
      have bM := (EX.block lM).trans HBM.out
      clear hX EX cM0 cM1 lM HBM HROW HR HC
      refine (l20Parcel_c lo p _ m X HRX.out (by omega) HM.out).mono ?_
      rintro e Y9 ⟨y, rfl, hRY, hCY⟩
      have hrY := hrX.out.chg hCY (fun b hb => by have := HB.out b hb; simp; omega)
      have bMY := (hCY.block M (lt_blk bM) (by simpa using hMp)).trans bM
      have HCY := hid (HCX.out.trans hCY)
      have HRY9 := hid hRY
      have HBM := hid bMY
      have HROY := hid hrY
      have hws := HCY.out.size
      have lM := lt_blk bMY
      clear hrX HRX HCX bM hRY hCY hrY bMY
      try go_wp2_with (first
          | ((with_reducible refine app_gate ?_); (refine wpList_appXK (cells := Pcl.cells) (k := 8) (bytes := 64) (z := .agg #[.int .i64 0, .int .i64 0, .int .i64 0, .int .i64 0, .int .i64 0, .int .i64 0, .int .i64 0, .int .i64 0]) Try.underlying44 (by kernel_rfl) rfl (by decide) (by decide) (fun _ => rfl) (fun x u hu => by simp only [Pcl.cells, List.mem_cons, List.not_mem_nil, or_false] at hu; rcases hu with rfl | rfl | rfl | rfl | rfl | rfl | rfl | rfl <;> rfl) rfl _ _ rfl rfl (xs := xs) (HROY.out.of (by ((try simp only [ext_drew]); (try simp only [ext_ext]); repeat (first | exact Ext.refl _ | with_reducible apply Ext.add | with_reducible apply Ext.dr | apply Ext.alloc | apply Ext.ext | apply Ext.drew | refine Ext.trans ?_ (by assumption))))) ({ y with n := nx }) rfl (alloc_last (by (try simp [go_sem]) <;> (try simp [Xt.add]) <;> omega)) (by omega) ?_); intro v' w' B' h1 h2 h3; have HROY' := hid h1; have HROYc := hid h2; have HROYb := hid h3; clear h1 h2 h3)
          | (
            with_reducible refine wp_region_mix (by kernel_rfl) (by decide +kernel) ?_
            repeat (first
              | (refine mix_pure rfl ?_; (first | go_big_quiet_skip | (go_big_quiet_want; go_big_quiet_op; go_big_quiet_on)); refine wpQuiet_nil ?_)
              | (refine mix_skip (by rfl) ?_; (try simp only [Act.put, List.setIfInBounds_toArray, List.set_cons_zero, List.set_cons_succ]))
              | (refine mix_mk rfl (by rfl) (fun K hK => ?_); (first | (go_simp; first | ((with_reducible refine app_gate ?_); (refine wpList_appXK (cells := Pcl.cells) (k := 8) (bytes := 64) (z := .agg #[.int .i64 0, .int .i64 0, .int .i64 0, .int .i64 0, .int .i64 0, .int .i64 0, .int .i64 0, .int .i64 0]) Try.underlying44 (by kernel_rfl) rfl (by decide) (by decide) (fun _ => rfl) (fun x u hu => by simp only [Pcl.cells, List.mem_cons, List.not_mem_nil, or_false] at hu; rcases hu with rfl | rfl | rfl | rfl | rfl | rfl | rfl | rfl <;> rfl) rfl _ _ rfl rfl (xs := xs) (HROY.out.of (by ((try simp only [ext_drew]); (try simp only [ext_ext]); repeat (first | exact Ext.refl _ | with_reducible apply Ext.add | with_reducible apply Ext.dr | apply Ext.alloc | apply Ext.ext | apply Ext.drew | refine Ext.trans ?_ (by assumption))))) ({ y with n := nx }) rfl (alloc_last (by (try simp [go_sem]) <;> (try simp [Xt.add]) <;> omega)) (by omega) ?_); intro v' w' B' h1 h2 h3; have HROY' := hid h1; have HROYc := hid h2; have HROYb := hid h3; clear h1 h2 h3) | skip)); (show K _ _); refine hK _ _ (show Ext _ _ from (by ((try simp only [ext_drew]); (try simp only [ext_ext]); repeat (first | exact Ext.refl _ | with_reducible apply Ext.add | with_reducible apply Ext.dr | apply Ext.alloc | apply Ext.ext | apply Ext.drew | refine Ext.trans ?_ (by assumption))))) ?_; clear hK K; (try simp only [Act.put, List.setIfInBounds_toArray, List.set_cons_zero, List.set_cons_succ])))
            refine mix_nil ?_)
          | (
            with_reducible refine wp_region_ext (by kernel_rfl) (by kernel_rfl) ?_
            repeat (first | go_big_quiet_skip | (go_big_quiet_want; go_big_quiet_op; first | go_big_quiet_on | (apply Exists.intro; refine ⟨fun _ => ?_, ?_⟩; (fail); (try rw [h1]); (try rw [h2]); (try rw [h3]); (try rw [h4]); (try rw [p1]); (try rw [p2]); (try rw [p3]); (try rw [p4]); (try rw [r1]); (try rw [r2]); (try rw [r3]); (try rw [r4]); (try rw [r5]); (try rw [r6]); (try rw [q3]); (try rw [q4]); (try rw [hp]); (try rw [hq]); go_big_quiet_on)))
            refine wpQuiet_nil ?_
            rintro _ ⟨tq, rfl⟩))
      go_roundw
      case rel =>
        have hchB : Chg B Y9 w' := Chg.trans (by repeat (first | with_reducible exact Chg.refl _ _ | with_reducible apply Chg.drew | with_reducible apply Chg.drewl | with_reducible refine Chg.turn (by simp) | with_reducible refine Chg.both ?_ (by simp) | (with_reducible refine Chg.set ?_ (by simp) _) | with_reducible apply Chg.alloc | with_reducible apply Chg.ext)) HROYc.out
        have hBn : ∀ b ∈ B', M < b := fun b hb => by
          rcases HROYb.out with h | h
          · subst h; exact HB.out b hb
          · subst h
            obtain rfl := List.mem_singleton.1 hb
            exact Nat.lt_of_lt_of_le lM (by (try simp [go_sem]) <;> (try simp [Xt.add]) <;> omega)
        obtain ⟨sa, sc, e⟩ := HROY'.out.slice
        have hrow := HROY'.out
        rw [e] at hrow
        refine ⟨k - 1, xs ++ [{ y with n := nx }], sa, sc, B', nx + 1, by omega, by go_num, e, by go_num, by omega, by omega, by simp; omega, hrow, hBn, (HRY9.out.chg hchB (fun b hb => by have := HB.out b hb; omega) (Nat.le_refl _)).up (by omega), HCY.out.up hchB (fun b hb => by have := HB.out b hb; omega), ?_⟩
        exact (hchB.block M lM (fun hb => by have := HB.out M hb; omega)).trans HBM.out
      case measure => simp [intOf]; omega
    · obtain rfl : k = 0 := by omega
      clear hk1 cM0 cM1
      try go_wp2_with (first
          | fail
          | (
            with_reducible refine wp_region_mix (by kernel_rfl) (by decide +kernel) ?_
            repeat (first
              | (refine mix_pure rfl ?_; (first | go_big_quiet_skip | (go_big_quiet_want; go_big_quiet_op; go_big_quiet_on)); refine wpQuiet_nil ?_)
              | (refine mix_skip (by rfl) ?_; (try simp only [Act.put, List.setIfInBounds_toArray, List.set_cons_zero, List.set_cons_succ]))
              | (refine mix_mk rfl (by rfl) (fun K hK => ?_); (first | (go_simp; first | skip)); (show K _ _); refine hK _ _ (show Ext _ _ from (by ((try simp only [ext_drew]); (try simp only [ext_ext]); repeat (first | exact Ext.refl _ | with_reducible apply Ext.add | with_reducible apply Ext.dr | apply Ext.alloc | apply Ext.ext | apply Ext.drew | refine Ext.trans ?_ (by assumption))))) ?_; clear hK K; (try simp only [Act.put, List.setIfInBounds_toArray, List.set_cons_zero, List.set_cons_succ])))
            refine mix_nil ?_)
          | (
            with_reducible refine wp_region_ext (by kernel_rfl) (by kernel_rfl) ?_
            repeat (first | go_big_quiet_skip | (go_big_quiet_want; go_big_quiet_op; first | go_big_quiet_on | (apply Exists.intro; refine ⟨fun _ => ?_, ?_⟩; (fail); (try rw [h1]); (try rw [h2]); (try rw [h3]); (try rw [h4]); (try rw [p1]); (try rw [p2]); (try rw [p3]); (try rw [p4]); (try rw [r1]); (try rw [r2]); (try rw [r3]); (try rw [r4]); (try rw [r5]); (try rw [r6]); (try rw [q3]); (try rw [q4]); (try rw [hp]); (try rw [hq]); go_big_quiet_on)))
            refine wpQuiet_nil ?_
            rintro _ ⟨tq, rfl⟩))
      refine (pick_c lo p _ 8 wr HR.out (by omega) (by omega) (by omega)).mono ?_
      rintro e Z ⟨v, rfl, hv0, hv1, hRZ, hCZ⟩
      have hpM : p < M := by omega
      have HCM := hid hCZ
      have hrZ := HROW.out.chg hCZ (fun b hb => by have := HB.out b hb; simp; omega)
      have HRZ := hid (hRZ.up (show _ ≤ Q + 500 by omega))
      have HCZ := hid (HC.out.trans hCZ)
      have HROZ := hid hrZ
      have HBW := hid (show ∀ b ∈ B, w.heap.size ≤ b from fun b hb => by have := HB.out b hb; omega)
      clear hRZ hCZ hrZ HROW HR HC
      by_cases hv : v = 0
      · subst hv
        clear hv0 hv1
        try go_wp2_with (first
            | fail
            | (
              with_reducible refine wp_region_mix (by kernel_rfl) (by decide +kernel) ?_
              repeat (first
                | (refine mix_pure rfl ?_; (first | go_big_quiet_skip | (go_big_quiet_want; go_big_quiet_op; go_big_quiet_on)); refine wpQuiet_nil ?_)
                | (refine mix_skip (by rfl) ?_; (try simp only [Act.put, List.setIfInBounds_toArray, List.set_cons_zero, List.set_cons_succ]))
                | (refine mix_mk rfl (by rfl) (fun K hK => ?_); (first | (go_simp; first | skip)); (show K _ _); refine hK _ _ (show Ext _ _ from (by ((try simp only [ext_drew]); (try simp only [ext_ext]); repeat (first | exact Ext.refl _ | with_reducible apply Ext.add | with_reducible apply Ext.dr | apply Ext.alloc | apply Ext.ext | apply Ext.drew | refine Ext.trans ?_ (by assumption))))) ?_; clear hK K; (try simp only [Act.put, List.setIfInBounds_toArray, List.set_cons_zero, List.set_cons_succ])))
              refine mix_nil ?_)
            | (
              with_reducible refine wp_region_ext (by kernel_rfl) (by kernel_rfl) ?_
              repeat (first | go_big_quiet_skip | (go_big_quiet_want; go_big_quiet_op; first | go_big_quiet_on | (apply Exists.intro; refine ⟨fun _ => ?_, ?_⟩; (fail); (try rw [h1]); (try rw [h2]); (try rw [h3]); (try rw [h4]); (try rw [p1]); (try rw [p2]); (try rw [p3]); (try rw [p4]); (try rw [r1]); (try rw [r2]); (try rw [r3]); (try rw [r4]); (try rw [r5]); (try rw [r6]); (try rw [q3]); (try rw [q4]); (try rw [hp]); (try rw [hq]); go_big_quiet_on)))
              refine wpQuiet_nil ?_
              rintro _ ⟨tq, rfl⟩))
        refine calls_gen fun X hX => ?_
        obtain ⟨A2, hA2⟩ : ∃ A, Z.heap.size = A := ⟨_, rfl⟩
        have EX : Ext Z X := by rw [hX]; ((try simp only [ext_drew]); (try simp only [ext_ext]); repeat (first | exact Ext.refl _ | with_reducible apply Ext.add | with_reducible apply Ext.dr | apply Ext.alloc | apply Ext.ext | apply Ext.drew | refine Ext.trans ?_ (by assumption)))
        have ba : X.heap[A2]? = some (.cells #[.int .i64 1, .int .i64 (-1)] 3 (0, 0)) := by rw [hX, ← hA2]; exact (by repeat (first | exact alloc_last (by (try simp [go_sem]) <;> (try simp [Xt.add]) <;> omega) | with_reducible refine blk_alloc ?_ | with_reducible refine blk_ext ?_ | with_reducible apply blk_drew))
        have HRX := hid (HRZ.out.of EX)
        have HCX := hid (HCZ.out.trans (Chg.of_ext EX [p]))
        have HROX := hid (HROZ.out.of EX)
        have lpZ := HRZ.out.lt
        rw [hA2]
        have hA2p : A2 ≠ p := by omega
        clear hX EX hA2 HRZ HCZ HROZ
        refine (pick_c lo p _ 2 X HRX.out (by omega) (by omega) (by omega)).mono ?_
        rintro e V ⟨v, rfl, hv0', hv1', hRV, hCV⟩
        obtain ⟨i, rfl⟩ : ∃ i : Nat, v = (i : Int) := ⟨v.toNat, by omega⟩
        have baV := (hCV.block A2 (lt_blk ba) (by simpa using hA2p)).trans ba
        obtain ⟨y, hyx, hyc⟩ := arr_at (xs := [1, -1]) (i := i) baV (by simp; omega)
        have hyb : -1 ≤ y ∧ y ≤ 5001 ∧ (y = 5001 ∨ y ≤ 1) := by simp at hyx; omega
        have hyn : -10 ≤ (nx + y) ∧ (nx + y) ≤ 5010 := by simp at hyx; omega
        have HRV := hid hRV
        have HCV := hid (HCX.out.trans hCV)
        have HROV := hid (HROX.out.chg hCV (fun b hb => by have := HB.out b hb; simp; omega))
        have la2 := lt_blk baV
        have za2 := frozen_blk baV i
        have hin2 : (i : Int) < 2 := by omega
        clear ba baV hRV hCV HRX HCX hyx HROX
        try go_wp2_with (first
            | fail
            | (
              with_reducible refine wp_region_mix (by kernel_rfl) (by decide +kernel) ?_
              repeat (first
                | (refine mix_pure rfl ?_; (first | go_big_quiet_skip | (go_big_quiet_want; go_big_quiet_op; go_big_quiet_on)); refine wpQuiet_nil ?_)
                | (refine mix_skip (by rfl) ?_; (try simp only [Act.put, List.setIfInBounds_toArray, List.set_cons_zero, List.set_cons_succ]))
                | (refine mix_mk rfl (by rfl) (fun K hK => ?_); (first | (go_simp; first | skip)); (show K _ _); refine hK _ _ (show Ext _ _ from (by ((try simp only [ext_drew]); (try simp only [ext_ext]); repeat (first | exact Ext.refl _ | with_reducible apply Ext.add | with_reducible apply Ext.dr | apply Ext.alloc | apply Ext.ext | apply Ext.drew | refine Ext.trans ?_ (by assumption))))) ?_; clear hK K; (try simp only [Act.put, List.setIfInBounds_toArray, List.set_cons_zero, List.set_cons_succ])))
              refine mix_nil ?_)
            | (
              with_reducible refine wp_region_ext (by kernel_rfl) (by kernel_rfl) ?_
              repeat (first | go_big_quiet_skip | (go_big_quiet_want; go_big_quiet_op; first | go_big_quiet_on | (apply Exists.intro; refine ⟨fun _ => ?_, ?_⟩; (fail); (try rw [h1]); (try rw [h2]); (try rw [h3]); (try rw [h4]); (try rw [p1]); (try rw [p2]); (try rw [p3]); (try rw [p4]); (try rw [r1]); (try rw [r2]); (try rw [r3]); (try rw [r4]); (try rw [r5]); (try rw [r6]); (try rw [q3]); (try rw [q4]); (try rw [hp]); (try rw [hq]); go_big_quiet_on)))
              refine wpQuiet_nil ?_
              rintro _ ⟨tq, rfl⟩))
        refine bodyPost_ret (v := .tuple #[.slice a xs.length c, .int .i64 ((nx + y))]) (by simp [results, Try.results65, go_sem]) rfl ?_
        exact ⟨_, xs, (nx + y), rfl, ⟨_, HROV.out.of (by ((try simp only [ext_drew]); (try simp only [ext_ext]); repeat (first | exact Ext.refl _ | with_reducible apply Ext.add | with_reducible apply Ext.dr | apply Ext.alloc | apply Ext.ext | apply Ext.drew | refine Ext.trans ?_ (by assumption)))), HBW.out⟩, by omega, hyn, (HRV.out.of (by ((try simp only [ext_drew]); (try simp only [ext_ext]); repeat (first | exact Ext.refl _ | with_reducible apply Ext.add | with_reducible apply Ext.dr | apply Ext.alloc | apply Ext.ext | apply Ext.drew | refine Ext.trans ?_ (by assumption))))).up (by omega), HCV.out.trans (Chg.of_ext (by ((try simp only [ext_drew]); (try simp only [ext_ext]); repeat (first | exact Ext.refl _ | with_reducible apply Ext.add | with_reducible apply Ext.dr | apply Ext.alloc | apply Ext.ext | apply Ext.drew | refine Ext.trans ?_ (by assumption)))) [p])⟩
      · have g0 : (v == 0) = false := beq_f hv
        by_cases hv1 : v = 1
        · subst hv1
          clear hv g0
          by_cases hn0 : 0 < xs.length
          · obtain ⟨x1, hx1⟩ : ∃ x, xs.length = x := ⟨_, rfl⟩
            rw [hx1] at hn0 hxk HROZ ⊢
            have HX1 := hid hx1
            clear hx1
            have bMZ := (HCM.out.block M lM (by simpa using hMp)).trans HBM.out
            have cM0 : Z.cell? ⟨M, 0, none⟩ = some (.int .i64 m.c) := (cell_blk bMZ 0).trans rfl
            have cM1 : Z.cell? ⟨M, 1, none⟩ = some (.int .i64 m.w) := (cell_blk bMZ 1).trans rfl
            have lMZ := lt_blk bMZ
            clear bMZ HCM HBM lM
            try go_wp2_with (first
                | fail
                | (
                  with_reducible refine wp_region_mix (by kernel_rfl) (by decide +kernel) ?_
                  repeat (first
                    | (refine mix_pure rfl ?_; (first | go_big_quiet_skip | (go_big_quiet_want; go_big_quiet_op; go_big_quiet_on)); refine wpQuiet_nil ?_)
                    | (refine mix_skip (by rfl) ?_; (try simp only [Act.put, List.setIfInBounds_toArray, List.set_cons_zero, List.set_cons_succ]))
                    | (refine mix_mk rfl (by rfl) (fun K hK => ?_); (first | (go_simp; first | skip)); (show K _ _); refine hK _ _ (show Ext _ _ from (by ((try simp only [ext_drew]); (try simp only [ext_ext]); repeat (first | exact Ext.refl _ | with_reducible apply Ext.add | with_reducible apply Ext.dr | apply Ext.alloc | apply Ext.ext | apply Ext.drew | refine Ext.trans ?_ (by assumption))))) ?_; clear hK K; (try simp only [Act.put, List.setIfInBounds_toArray, List.set_cons_zero, List.set_cons_succ])))
                  refine mix_nil ?_)
                | (
                  with_reducible refine wp_region_ext (by kernel_rfl) (by kernel_rfl) ?_
                  repeat (first | go_big_quiet_skip | (go_big_quiet_want; go_big_quiet_op; first | go_big_quiet_on | (apply Exists.intro; refine ⟨fun _ => ?_, ?_⟩; (fail); (try rw [h1]); (try rw [h2]); (try rw [h3]); (try rw [h4]); (try rw [p1]); (try rw [p2]); (try rw [p3]); (try rw [p4]); (try rw [r1]); (try rw [r2]); (try rw [r3]); (try rw [r4]); (try rw [r5]); (try rw [r6]); (try rw [q3]); (try rw [q4]); (try rw [hp]); (try rw [hq]); go_big_quiet_on)))
                  refine wpQuiet_nil ?_
                  rintro _ ⟨tq, rfl⟩))
            refine (l20AnyParcel_c lo p (Q + 500) m 1 Z HRZ.out (by omega) HM.out (by omega) (by omega)).mono ?_
            rintro e V ⟨y, rfl, hRV, hCV⟩
            have hrV := HROZ.out.chg hCV (fun b hb => by have := HBW.out b hb; simp; omega)
            have HRV := hid hRV
            have HCV := hid (HCZ.out.trans hCV)
            obtain ⟨g, cur, x, hga, hBg, hnn, hnc, hxj, hb, hsz, hcell, hput⟩ := RowX.at (cells := Pcl.cells) (k := 8) (j := 0) (by decide) (fun _ => rfl) hrV (by have := HX1.out; omega)
            subst hga
            have HPUT := hid hput
            have HSZ := hid hsz
            have hgw : w.heap.size ≤ g := HBW.out g (by rw [hBg]; simp)
            have hgp : g ≠ p := by omega
            have HX2 := hid (show (xs.set 0 y).length = x1 by rw [List.length_set]; exact HX1.out)
            have ce0 : V.cell? ⟨g, 0, none⟩ = some (.int .i64 x.n) := (cell_blk hb 0).trans (hcell 0 _ rfl)
            have ze0 := frozen_blk hb 0
            have ce1 : V.cell? ⟨g, 1, none⟩ = some (.int .i64 x.kind) := (cell_blk hb 1).trans (hcell 1 _ rfl)
            have ze1 := frozen_blk hb 1
            have ce2 : V.cell? ⟨g, 2, none⟩ = some (.int .i64 x.wk.id) := (cell_blk hb 2).trans (hcell 2 _ rfl)
            have ze2 := frozen_blk hb 2
            have ce3 : V.cell? ⟨g, 3, none⟩ = some (.int .i64 x.wk.at_) := (cell_blk hb 3).trans (hcell 3 _ rfl)
            have ze3 := frozen_blk hb 3
            have ce4 : V.cell? ⟨g, 4, none⟩ = some (.int .i64 x.wk.coins) := (cell_blk hb 4).trans (hcell 4 _ rfl)
            have ze4 := frozen_blk hb 4
            have ce5 : V.cell? ⟨g, 5, none⟩ = some (.int .i64 x.wk.seq) := (cell_blk hb 5).trans (hcell 5 _ rfl)
            have ze5 := frozen_blk hb 5
            have ce6 : V.cell? ⟨g, 6, none⟩ = some (.int .i64 x.wk.last) := (cell_blk hb 6).trans (hcell 6 _ rfl)
            have ze6 := frozen_blk hb 6
            have ce7 : V.cell? ⟨g, 7, none⟩ = some (.int .i64 x.coins) := (cell_blk hb 7).trans (hcell 7 _ rfl)
            have ze7 := frozen_blk hb 7
            have le := lt_blk hb
            have HBL := hid hb
            clear hput hsz hcell hBg hnn hb hxj hRV hCV hrV HRZ HCZ HROZ cM0 cM1 lMZ
            try go_wp2_with (first
                | fail
                | (
                  with_reducible refine wp_region_mix (by kernel_rfl) (by decide +kernel) ?_
                  repeat (first
                    | (refine mix_pure rfl ?_; (first | go_big_quiet_skip | (go_big_quiet_want; go_big_quiet_op; go_big_quiet_on)); refine wpQuiet_nil ?_)
                    | (refine mix_skip (by rfl) ?_; (try simp only [Act.put, List.setIfInBounds_toArray, List.set_cons_zero, List.set_cons_succ]))
                    | (refine mix_mk rfl (by rfl) (fun K hK => ?_); (first | (go_simp; first | skip)); (show K _ _); refine hK _ _ (show Ext _ _ from (by ((try simp only [ext_drew]); (try simp only [ext_ext]); repeat (first | exact Ext.refl _ | with_reducible apply Ext.add | with_reducible apply Ext.dr | apply Ext.alloc | apply Ext.ext | apply Ext.drew | refine Ext.trans ?_ (by assumption))))) ?_; clear hK K; (try simp only [Act.put, List.setIfInBounds_toArray, List.set_cons_zero, List.set_cons_succ])))
                  refine mix_nil ?_)
                | (
                  with_reducible refine wp_region_ext (by kernel_rfl) (by kernel_rfl) ?_
                  repeat (first | go_big_quiet_skip | (go_big_quiet_want; go_big_quiet_op; first | go_big_quiet_on | (apply Exists.intro; refine ⟨fun _ => ?_, ?_⟩; (fail); (try rw [h1]); (try rw [h2]); (try rw [h3]); (try rw [h4]); (try rw [p1]); (try rw [p2]); (try rw [p3]); (try rw [p4]); (try rw [r1]); (try rw [r2]); (try rw [r3]); (try rw [r4]); (try rw [r5]); (try rw [r6]); (try rw [q3]); (try rw [q4]); (try rw [hp]); (try rw [hq]); go_big_quiet_on)))
                  refine wpQuiet_nil ?_
                  rintro _ ⟨tq, rfl⟩))
            refine bodyPost_ret (v := .tuple #[.slice (some ⟨g, 0, none⟩) x1 c, .int .i64 nx]) (by simp [results, Try.results65, go_sem]) rfl ?_
            refine ⟨_, xs.set 0 y, nx, rfl, ⟨_, HPUT.out _ (pclArr cur 0 y) y (by simp only [pclArr, Nat.zero_mul, Nat.zero_add]; exact (by repeat (first | with_reducible exact HBL.out | with_reducible apply blk_drew | with_reducible refine blk_set ?_ | (with_reducible refine blk_other ?_ (by first | assumption | omega)) | with_reducible refine blk_ext ?_ | with_reducible refine blk_alloc ?_))) (pclArr_ok HSZ.out).1 (pclArr_ok HSZ.out).2.1 (pclArr_ok HSZ.out).2.2, HBW.out⟩, by have := HX2.out; omega, by omega, (HRV.out.chg (B := [g]) (by repeat (first | with_reducible exact Chg.refl _ _ | with_reducible apply Chg.drew | with_reducible apply Chg.drewl | with_reducible refine Chg.turn (by simp) | with_reducible refine Chg.both ?_ (by simp) | (with_reducible refine Chg.set ?_ (by simp) _) | with_reducible apply Chg.alloc | with_reducible apply Chg.ext)) (by simp; omega) (Nat.le_refl _)).up (by omega), Chg.fin (B := [g]) ((HCV.out.mono (B' := [p, g]) (by simp)).trans (by repeat (first | with_reducible exact Chg.refl _ _ | with_reducible apply Chg.drew | with_reducible apply Chg.drewl | with_reducible refine Chg.turn (by simp) | with_reducible refine Chg.both ?_ (by simp) | (with_reducible refine Chg.set ?_ (by simp) _) | with_reducible apply Chg.alloc | with_reducible apply Chg.ext))) (by simp; omega)⟩
          · try go_wp2_with (first
                | fail
                | (
                  with_reducible refine wp_region_mix (by kernel_rfl) (by decide +kernel) ?_
                  repeat (first
                    | (refine mix_pure rfl ?_; (first | go_big_quiet_skip | (go_big_quiet_want; go_big_quiet_op; go_big_quiet_on)); refine wpQuiet_nil ?_)
                    | (refine mix_skip (by rfl) ?_; (try simp only [Act.put, List.setIfInBounds_toArray, List.set_cons_zero, List.set_cons_succ]))
                    | (refine mix_mk rfl (by rfl) (fun K hK => ?_); (first | (go_simp; first | skip)); (show K _ _); refine hK _ _ (show Ext _ _ from (by ((try simp only [ext_drew]); (try simp only [ext_ext]); repeat (first | exact Ext.refl _ | with_reducible apply Ext.add | with_reducible apply Ext.dr | apply Ext.alloc | apply Ext.ext | apply Ext.drew | refine Ext.trans ?_ (by assumption))))) ?_; clear hK K; (try simp only [Act.put, List.setIfInBounds_toArray, List.set_cons_zero, List.set_cons_succ])))
                  refine mix_nil ?_)
                | (
                  with_reducible refine wp_region_ext (by kernel_rfl) (by kernel_rfl) ?_
                  repeat (first | go_big_quiet_skip | (go_big_quiet_want; go_big_quiet_op; first | go_big_quiet_on | (apply Exists.intro; refine ⟨fun _ => ?_, ?_⟩; (fail); (try rw [h1]); (try rw [h2]); (try rw [h3]); (try rw [h4]); (try rw [p1]); (try rw [p2]); (try rw [p3]); (try rw [p4]); (try rw [r1]); (try rw [r2]); (try rw [r3]); (try rw [r4]); (try rw [r5]); (try rw [r6]); (try rw [q3]); (try rw [q4]); (try rw [hp]); (try rw [hq]); go_big_quiet_on)))
                  refine wpQuiet_nil ?_
                  rintro _ ⟨tq, rfl⟩))
            refine bodyPost_ret (v := .tuple #[.slice a xs.length c, .int .i64 nx]) (by simp [results, Try.results65, go_sem]) rfl ?_
            refine ⟨_, xs, nx, rfl, ⟨_, HROZ.out.of (by ((try simp only [ext_drew]); (try simp only [ext_ext]); repeat (first | exact Ext.refl _ | with_reducible apply Ext.add | with_reducible apply Ext.dr | apply Ext.alloc | apply Ext.ext | apply Ext.drew | refine Ext.trans ?_ (by assumption)))), HBW.out⟩, by omega, by omega, (HRZ.out.of (by ((try simp only [ext_drew]); (try simp only [ext_ext]); repeat (first | exact Ext.refl _ | with_reducible apply Ext.add | with_reducible apply Ext.dr | apply Ext.alloc | apply Ext.ext | apply Ext.drew | refine Ext.trans ?_ (by assumption))))).up (by omega), HCZ.out.trans (Chg.of_ext (by ((try simp only [ext_drew]); (try simp only [ext_ext]); repeat (first | exact Ext.refl _ | with_reducible apply Ext.add | with_reducible apply Ext.dr | apply Ext.alloc | apply Ext.ext | apply Ext.drew | refine Ext.trans ?_ (by assumption)))) [p])⟩
        · have g1 : (v == 1) = false := beq_f hv1
          by_cases hv2 : v = 2
          · subst hv2
            clear hv hv1 g0 g1
            try go_wp2_with (first
                | fail
                | (
                  with_reducible refine wp_region_mix (by kernel_rfl) (by decide +kernel) ?_
                  repeat (first
                    | (refine mix_pure rfl ?_; (first | go_big_quiet_skip | (go_big_quiet_want; go_big_quiet_op; go_big_quiet_on)); refine wpQuiet_nil ?_)
                    | (refine mix_skip (by rfl) ?_; (try simp only [Act.put, List.setIfInBounds_toArray, List.set_cons_zero, List.set_cons_succ]))
                    | (refine mix_mk rfl (by rfl) (fun K hK => ?_); (first | (go_simp; first | skip)); (show K _ _); refine hK _ _ (show Ext _ _ from (by ((try simp only [ext_drew]); (try simp only [ext_ext]); repeat (first | exact Ext.refl _ | with_reducible apply Ext.add | with_reducible apply Ext.dr | apply Ext.alloc | apply Ext.ext | apply Ext.drew | refine Ext.trans ?_ (by assumption))))) ?_; clear hK K; (try simp only [Act.put, List.setIfInBounds_toArray, List.set_cons_zero, List.set_cons_succ])))
                  refine mix_nil ?_)
                | (
                  with_reducible refine wp_region_ext (by kernel_rfl) (by kernel_rfl) ?_
                  repeat (first | go_big_quiet_skip | (go_big_quiet_want; go_big_quiet_op; first | go_big_quiet_on | (apply Exists.intro; refine ⟨fun _ => ?_, ?_⟩; (fail); (try rw [h1]); (try rw [h2]); (try rw [h3]); (try rw [h4]); (try rw [p1]); (try rw [p2]); (try rw [p3]); (try rw [p4]); (try rw [r1]); (try rw [r2]); (try rw [r3]); (try rw [r4]); (try rw [r5]); (try rw [r6]); (try rw [q3]); (try rw [q4]); (try rw [hp]); (try rw [hq]); go_big_quiet_on)))
                  refine wpQuiet_nil ?_
                  rintro _ ⟨tq, rfl⟩))
            refine calls_gen fun X hX => ?_
            obtain ⟨A2, hA2⟩ : ∃ A, Z.heap.size = A := ⟨_, rfl⟩
            have EX : Ext Z X := by rw [hX]; ((try simp only [ext_drew]); (try simp only [ext_ext]); repeat (first | exact Ext.refl _ | with_reducible apply Ext.add | with_reducible apply Ext.dr | apply Ext.alloc | apply Ext.ext | apply Ext.drew | refine Ext.trans ?_ (by assumption)))
            have ba : X.heap[A2]? = some (.cells #[.int .i64 (-1), .int .i64 5001] 3 (0, 0)) := by rw [hX, ← hA2]; exact (by repeat (first | exact alloc_last (by (try simp [go_sem]) <;> (try simp [Xt.add]) <;> omega) | with_reducible refine blk_alloc ?_ | with_reducible refine blk_ext ?_ | with_reducible apply blk_drew))
            have HRX := hid (HRZ.out.of EX)
            have HCX := hid (HCZ.out.trans (Chg.of_ext EX [p]))
            have HROX := hid (HROZ.out.of EX)
            have lpZ := HRZ.out.lt
            rw [hA2]
            have hA2p : A2 ≠ p := by omega
            clear hX EX hA2 HRZ HCZ HROZ
            refine (pick_c lo p _ 2 X HRX.out (by omega) (by omega) (by omega)).mono ?_
            rintro e V ⟨v, rfl, hv0', hv1', hRV, hCV⟩
            obtain ⟨i, rfl⟩ : ∃ i : Nat, v = (i : Int) := ⟨v.toNat, by omega⟩
            have baV := (hCV.block A2 (lt_blk ba) (by simpa using hA2p)).trans ba
            obtain ⟨y, hyx, hyc⟩ := arr_at (xs := [-1, 5001]) (i := i) baV (by simp; omega)
            have hyb : -1 ≤ y ∧ y ≤ 5001 ∧ (y = 5001 ∨ y ≤ 1) := by simp at hyx; omega
            have hyn : -10 ≤ (y) ∧ (y) ≤ 5010 := by simp at hyx; omega
            have HRV := hid hRV
            have HCV := hid (HCX.out.trans hCV)
            have HROV := hid (HROX.out.chg hCV (fun b hb => by have := HB.out b hb; simp; omega))
            have la2 := lt_blk baV
            have za2 := frozen_blk baV i
            have hin2 : (i : Int) < 2 := by omega
            clear ba baV hRV hCV HRX HCX hyx HROX
            try go_wp2_with (first
                | fail
                | (
                  with_reducible refine wp_region_mix (by kernel_rfl) (by decide +kernel) ?_
                  repeat (first
                    | (refine mix_pure rfl ?_; (first | go_big_quiet_skip | (go_big_quiet_want; go_big_quiet_op; go_big_quiet_on)); refine wpQuiet_nil ?_)
                    | (refine mix_skip (by rfl) ?_; (try simp only [Act.put, List.setIfInBounds_toArray, List.set_cons_zero, List.set_cons_succ]))
                    | (refine mix_mk rfl (by rfl) (fun K hK => ?_); (first | (go_simp; first | skip)); (show K _ _); refine hK _ _ (show Ext _ _ from (by ((try simp only [ext_drew]); (try simp only [ext_ext]); repeat (first | exact Ext.refl _ | with_reducible apply Ext.add | with_reducible apply Ext.dr | apply Ext.alloc | apply Ext.ext | apply Ext.drew | refine Ext.trans ?_ (by assumption))))) ?_; clear hK K; (try simp only [Act.put, List.setIfInBounds_toArray, List.set_cons_zero, List.set_cons_succ])))
                  refine mix_nil ?_)
                | (
                  with_reducible refine wp_region_ext (by kernel_rfl) (by kernel_rfl) ?_
                  repeat (first | go_big_quiet_skip | (go_big_quiet_want; go_big_quiet_op; first | go_big_quiet_on | (apply Exists.intro; refine ⟨fun _ => ?_, ?_⟩; (fail); (try rw [h1]); (try rw [h2]); (try rw [h3]); (try rw [h4]); (try rw [p1]); (try rw [p2]); (try rw [p3]); (try rw [p4]); (try rw [r1]); (try rw [r2]); (try rw [r3]); (try rw [r4]); (try rw [r5]); (try rw [r6]); (try rw [q3]); (try rw [q4]); (try rw [hp]); (try rw [hq]); go_big_quiet_on)))
                  refine wpQuiet_nil ?_
                  rintro _ ⟨tq, rfl⟩))
            refine bodyPost_ret (v := .tuple #[.slice a xs.length c, .int .i64 ((y))]) (by simp [results, Try.results65, go_sem]) rfl ?_
            exact ⟨_, xs, (y), rfl, ⟨_, HROV.out.of (by ((try simp only [ext_drew]); (try simp only [ext_ext]); repeat (first | exact Ext.refl _ | with_reducible apply Ext.add | with_reducible apply Ext.dr | apply Ext.alloc | apply Ext.ext | apply Ext.drew | refine Ext.trans ?_ (by assumption)))), HBW.out⟩, by omega, hyn, (HRV.out.of (by ((try simp only [ext_drew]); (try simp only [ext_ext]); repeat (first | exact Ext.refl _ | with_reducible apply Ext.add | with_reducible apply Ext.dr | apply Ext.alloc | apply Ext.ext | apply Ext.drew | refine Ext.trans ?_ (by assumption))))).up (by omega), HCV.out.trans (Chg.of_ext (by ((try simp only [ext_drew]); (try simp only [ext_ext]); repeat (first | exact Ext.refl _ | with_reducible apply Ext.add | with_reducible apply Ext.dr | apply Ext.alloc | apply Ext.ext | apply Ext.drew | refine Ext.trans ?_ (by assumption)))) [p])⟩
          · have g2 : (v == 2) = false := beq_f hv2
            clear hv hv1 hv2
            try go_wp2_with (first
                | fail
                | (
                  with_reducible refine wp_region_mix (by kernel_rfl) (by decide +kernel) ?_
                  repeat (first
                    | (refine mix_pure rfl ?_; (first | go_big_quiet_skip | (go_big_quiet_want; go_big_quiet_op; go_big_quiet_on)); refine wpQuiet_nil ?_)
                    | (refine mix_skip (by rfl) ?_; (try simp only [Act.put, List.setIfInBounds_toArray, List.set_cons_zero, List.set_cons_succ]))
                    | (refine mix_mk rfl (by rfl) (fun K hK => ?_); (first | (go_simp; first | skip)); (show K _ _); refine hK _ _ (show Ext _ _ from (by ((try simp only [ext_drew]); (try simp only [ext_ext]); repeat (first | exact Ext.refl _ | with_reducible apply Ext.add | with_reducible apply Ext.dr | apply Ext.alloc | apply Ext.ext | apply Ext.drew | refine Ext.trans ?_ (by assumption))))) ?_; clear hK K; (try simp only [Act.put, List.setIfInBounds_toArray, List.set_cons_zero, List.set_cons_succ])))
                  refine mix_nil ?_)
                | (
                  with_reducible refine wp_region_ext (by kernel_rfl) (by kernel_rfl) ?_
                  repeat (first | go_big_quiet_skip | (go_big_quiet_want; go_big_quiet_op; first | go_big_quiet_on | (apply Exists.intro; refine ⟨fun _ => ?_, ?_⟩; (fail); (try rw [h1]); (try rw [h2]); (try rw [h3]); (try rw [h4]); (try rw [p1]); (try rw [p2]); (try rw [p3]); (try rw [p4]); (try rw [r1]); (try rw [r2]); (try rw [r3]); (try rw [r4]); (try rw [r5]); (try rw [r6]); (try rw [q3]); (try rw [q4]); (try rw [hp]); (try rw [hq]); go_big_quiet_on)))
                  refine wpQuiet_nil ?_
                  rintro _ ⟨tq, rfl⟩))
            refine bodyPost_ret (v := .tuple #[.slice a xs.length c, .int .i64 nx]) (by simp [results, Try.results65, go_sem]) rfl ?_
            refine ⟨_, xs, nx, rfl, ⟨_, HROZ.out.of (by ((try simp only [ext_drew]); (try simp only [ext_ext]); repeat (first | exact Ext.refl _ | with_reducible apply Ext.add | with_reducible apply Ext.dr | apply Ext.alloc | apply Ext.ext | apply Ext.drew | refine Ext.trans ?_ (by assumption)))), HBW.out⟩, by omega, by omega, (HRZ.out.of (by ((try simp only [ext_drew]); (try simp only [ext_ext]); repeat (first | exact Ext.refl _ | with_reducible apply Ext.add | with_reducible apply Ext.dr | apply Ext.alloc | apply Ext.ext | apply Ext.drew | refine Ext.trans ?_ (by assumption))))).up (by omega), HCZ.out.trans (Chg.of_ext (by ((try simp only [ext_drew]); (try simp only [ext_ext]); repeat (first | exact Ext.refl _ | with_reducible apply Ext.add | with_reducible apply Ext.dr | apply Ext.alloc | apply Ext.ext | apply Ext.drew | refine Ext.trans ?_ (by assumption)))) [p])⟩
end Go.Proofs.Ytbbpipbemhggdaa
