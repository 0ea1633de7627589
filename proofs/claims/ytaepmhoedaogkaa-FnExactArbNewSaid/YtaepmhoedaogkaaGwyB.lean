/- GwyAsk: a book that takes an order. -/
import Derived.Test.YtaepmhoedaogkaaGwyA
import Derived.Test.YtaepmhoedaogkaaGwyS
import Derived.Test.YtaepmhoedaogkaaGwyI
namespace Go.Proofs.Ytaepmhoedaogkaa
open Go.RowKit
set_option linter.unusedSimpArgs false
set_option linter.unusedVariables false

@[go_sem] theorem alloc_frozen' (w : World) (o : Obj) (b i : Nat) (h : b < w.heap.size) : (w.alloc o).frozen? ⟨b, i, none⟩ = w.frozen? ⟨b, i, none⟩ := by
  rw [alloc_ext]; exact ext_frozen' _ _ _ _ h
@[go_sem] theorem alloc_cell' (w : World) (o : Obj) (b i : Nat) (h : b < w.heap.size) : (w.alloc o).cell? ⟨b, i, none⟩ = w.cell? ⟨b, i, none⟩ := by
  rw [alloc_ext]; exact ext_cell' _ _ _ _ h
def MadeGwyB (w : World) (n0 : Nat) (xs0 : List Row) (b : Bool) (e : Ending) (w' : World) : Prop :=
  ∃ a0 c0, e = .returned (.tuple #[.agg #[.slice a0 n0 c0], .bool b]) ∧ Ext w w' ∧ OwnR w.heap.size w'.heap.size w' sGwy [.slice a0 n0 c0] (gwyDat xs0)
def gaB (m : Mp) (xs : List Row) (who kind to_ n : Int) : Bool := gwyOk m xs && askB xs who kind to_ n
def gaL (m : Mp) (xs : List Row) (who kind to_ n : Int) : List Row := if gwyOk m xs then askL xs who kind to_ n else []
theorem gaL_len (m : Mp) (xs : List Row) (who kind to_ n : Int) : (gaL m xs who kind to_ n).length ≤ xs.length := by
  unfold gaL; split <;> simp [askL_len]
theorem gwyOk_facts {m : Mp} {xs : List Row} (h : gwyOk m xs = true) : plcOk m = true ∧ ∀ y ∈ xs, 0 ≤ y.seq ∧ y.seq ≤ 900 := by
  simp only [gwyOk, Bool.and_eq_true] at h
  refine ⟨h.2, fun y hy => ?_⟩
  obtain ⟨k, hk⟩ := List.getElem?_of_mem hy
  have := allI_iff.1 h.1 k y hk
  simp only [gwyAt, gwyRow, rowNum, Bool.and_eq_true] at this
  exact inB_iff.1 this.1.1.1.2

def askArr (arr : Array Value) (x : Row) (k : Nat) (who kind to_ m : Int) : Array Value := ((((((arr.setIfInBounds (k * 10 + 2) (.bool true)).setIfInBounds (k * 10 + 3) (.int .i64 who)).setIfInBounds (k * 10 + 3 + 1) (.int .i64 (x.seq + 1))).setIfInBounds (k * 10 + 3 + 2) (.int .i64 kind)).setIfInBounds (k * 10 + 3 + 3) (.int .i64 to_)).setIfInBounds (k * 10 + 3 + 4) (.int .i64 m))
theorem askArr_ok {arr : Array Value} {x : Row} {k : Nat} {who kind to_ m : Int} (hsz : k * 10 + 10 ≤ arr.size) (HC : ∀ i v, x.cells[i]? = some v → arr[k * 10 + i]? = some v) :
    (askArr arr x k who kind to_ m).size = arr.size ∧ (∀ i, ¬ (k * 10 ≤ i ∧ i < k * 10 + 10) → (askArr arr x k who kind to_ m)[i]? = arr[i]?) ∧ (∀ i v, (askRow x who kind to_ m).cells[i]? = some v → (askArr arr x k who kind to_ m)[k * 10 + i]? = some v) := by
  unfold askArr
  refine ⟨by simp, fun i hi => ?_, fun i v hv => ?_⟩
  · repeat (with_reducible refine arr_out (by omega) ?_)
    rfl
  · match i, hv with
    | 0, hv =>
      repeat (with_reducible refine arr_out (by omega) ?_)
      exact HC 0 v hv
    | 1, hv =>
      repeat (with_reducible refine arr_out (by omega) ?_)
      exact HC 1 v hv
    | 2, hv =>
      repeat (with_reducible refine arr_out (by omega) ?_)
      exact (arr_at (by omega) (by (try simp only [Array.size_setIfInBounds]); omega)).trans hv
    | 3, hv =>
      repeat (with_reducible refine arr_out (by omega) ?_)
      exact (arr_at (by omega) (by (try simp only [Array.size_setIfInBounds]); omega)).trans hv
    | 4, hv =>
      repeat (with_reducible refine arr_out (by omega) ?_)
      exact (arr_at (by omega) (by (try simp only [Array.size_setIfInBounds]); omega)).trans hv
    | 5, hv =>
      repeat (with_reducible refine arr_out (by omega) ?_)
      exact (arr_at (by omega) (by (try simp only [Array.size_setIfInBounds]); omega)).trans hv
    | 6, hv =>
      repeat (with_reducible refine arr_out (by omega) ?_)
      exact (arr_at (by omega) (by (try simp only [Array.size_setIfInBounds]); omega)).trans hv
    | 7, hv =>
      repeat (with_reducible refine arr_out (by omega) ?_)
      exact (arr_at (by omega) (by (try simp only [Array.size_setIfInBounds]); omega)).trans hv
    | 8, hv =>
      repeat (with_reducible refine arr_out (by omega) ?_)
      exact HC 8 v hv
    | 9, hv =>
      repeat (with_reducible refine arr_out (by omega) ?_)
      exact HC 9 v hv
theorem fin_same {w W w2 : World} {lo hi R : Nat} {s : Sch} {vs : List Value} {d : Dat} (hE : Ext w W) (ho : OwnR lo hi W s vs d) (hR : w.heap.size ≤ R) (hRl : R < lo) (h2 : Chg [R] W w2) : Ext w w2 ∧ OwnR w.heap.size w2.heap.size w2 s vs d :=
  fin_res hE ⟨rfl, rfl, rfl, Nat.le_refl _, fun _ _ _ => rfl⟩ ho hR hRl h2

set_option maxRecDepth 100000 in
set_option maxHeartbeats 4000000 in
theorem iGwyAsk_c (m : Mp) (xs : List Row) (a : Option Addr) (n c : Nat) (who kind to_ q : Int) (w : World) (h0 : Re w (.sl sRow) [.slice a n c] (.l (xs.map Row.dat))) (b0 : n ≤ 1048576) :
    Calls Try.prog 64 #[.agg #[.int .i64 m.c, .int .i64 m.w], .agg #[.slice a n c], .int .i64 who, .int .i64 kind, .int .i64 to_, .int .i64 q] w (MadeGwyB w (gaL m xs who kind to_ q).length (gaL m xs who kind to_ q) (gaB m xs who kind to_ q)) := by
  have H0 := hid h0
  have L0 := hid h0.len
  clear h0
  cases h : gwyOk m xs with
  | false =>
    go_enter Try.func64, Try.ntmps64
    try go_wp2_with (first
        | (go_at_call 57; refine (iGwyOk_c _ _ _ _ _ _ (Re.of (Hid.out (by assumption)) (by ((try simp only [ext_drew]); (try simp only [ext_ext]); repeat (first | exact Ext.refl _ | with_reducible apply Ext.add | with_reducible apply Ext.dr | apply Ext.alloc | apply Ext.ext | apply Ext.drew | refine Ext.trans ?_ (by assumption))))) (by omega)).mono ?_; rintro e w' ⟨rfl, t, rfl⟩)
        | (
          with_reducible refine wp_region_mix (by kernel_rfl) (by decide +kernel) ?_
          repeat (first
            | (refine mix_pure rfl ?_; (first | go_big_quiet_skip | (go_big_quiet_want; go_big_quiet_op; go_big_quiet_on)); refine wpQuiet_nil ?_)
            | (refine mix_skip (by rfl) ?_; (try simp only [Act.put, List.setIfInBounds_toArray, List.set_cons_zero, List.set_cons_succ]))
            | (refine mix_mk rfl (by rfl) (fun K hK => ?_); (first | (go_simp; first | (go_at_call 57; refine (iGwyOk_c _ _ _ _ _ _ (Re.of (Hid.out (by assumption)) (by ((try simp only [ext_drew]); (try simp only [ext_ext]); repeat (first | exact Ext.refl _ | with_reducible apply Ext.add | with_reducible apply Ext.dr | apply Ext.alloc | apply Ext.ext | apply Ext.drew | refine Ext.trans ?_ (by assumption))))) (by omega)).mono ?_; rintro e w' ⟨rfl, t, rfl⟩) | skip)); (show K _ _); refine hK _ _ (show Ext _ _ from (by ((try simp only [ext_drew]); (try simp only [ext_ext]); repeat (first | exact Ext.refl _ | with_reducible apply Ext.add | with_reducible apply Ext.dr | apply Ext.alloc | apply Ext.ext | apply Ext.drew | refine Ext.trans ?_ (by assumption))))) ?_; clear hK K; (try simp only [Act.put, List.setIfInBounds_toArray, List.set_cons_zero, List.set_cons_succ])))
          refine mix_nil ?_)
        | (
          with_reducible refine wp_region_ext (by kernel_rfl) (by kernel_rfl) ?_
          repeat (first | go_big_quiet_skip | (go_big_quiet_want; go_big_quiet_op; first | go_big_quiet_on | (apply Exists.intro; refine ⟨fun _ => ?_, ?_⟩; ((first | (go_at_call 57; first | exact quiet_call (iGwyOk_c _ _ _ _ _ _ (Re.of (Hid.out (by assumption)) (by ((try simp only [ext_drew]); (try simp only [ext_ext]); repeat (first | exact Ext.refl _ | with_reducible apply Ext.add | with_reducible apply Ext.dr | apply Ext.alloc | apply Ext.ext | apply Ext.drew | refine Ext.trans ?_ (by assumption))))) (by omega)) | exact quiet_call2 (iGwyOk_c _ _ _ _ _ _ (Re.of (Hid.out (by assumption)) (by ((try simp only [ext_drew]); (try simp only [ext_ext]); repeat (first | exact Ext.refl _ | with_reducible apply Ext.add | with_reducible apply Ext.dr | apply Ext.alloc | apply Ext.ext | apply Ext.drew | refine Ext.trans ?_ (by assumption))))) (by omega))))); (try rw [h1]); (try rw [h2]); (try rw [h3]); (try rw [h4]); (try rw [p1]); (try rw [p2]); (try rw [p3]); (try rw [p4]); (try rw [r1]); (try rw [r2]); (try rw [r3]); (try rw [r4]); (try rw [r5]); (try rw [r6]); (try rw [q3]); (try rw [q4]); (try rw [hp]); (try rw [hq]); go_big_quiet_on)))
          refine wpQuiet_nil ?_
          rintro _ ⟨tq, rfl⟩))
    refine bodyPost_ret (v := .tuple #[.agg #[.slice none 0 0], .bool false]) (by simp [results, Try.results64, go_sem]) rfl ?_
    rw [show gaL m xs who kind to_ q = [] by rw [gaL, h]; rfl, show gaB m xs who kind to_ q = false by rw [gaB, h]; rfl]
    refine ⟨_, _, rfl, (by ((try simp only [ext_drew]); (try simp only [ext_ext]); repeat (first | exact Ext.refl _ | with_reducible apply Ext.add | with_reducible apply Ext.dr | apply Ext.alloc | apply Ext.ext | apply Ext.drew | refine Ext.trans ?_ (by assumption)))), ?_⟩
    exact ⟨Nat.le_refl _, [], by simp, by simp, own_Gwy_nil _⟩
  | true =>
    have F := gwyOk_facts h
    have p1 := F.1
    have HS := hid F.2
    have E0 := hid (show gaL m xs who kind to_ q = askL xs who kind to_ q by rw [gaL, h]; rfl)
    have EB := hid (show gaB m xs who kind to_ q = askB xs who kind to_ q by rw [gaB, h]; rfl)
    have LE := hid (show (gaL m xs who kind to_ q).length = n by rw [E0.out, askL_len]; exact L0.out.symm)
    clear F
    rw [LE.out, E0.out, EB.out]
    go_enter Try.func64, Try.ntmps64
    try go_wp2_with (first
        | (go_at_call 57; refine (iGwyOk_c _ _ _ _ _ _ (Re.of (Hid.out (by assumption)) (by ((try simp only [ext_drew]); (try simp only [ext_ext]); repeat (first | exact Ext.refl _ | with_reducible apply Ext.add | with_reducible apply Ext.dr | apply Ext.alloc | apply Ext.ext | apply Ext.drew | refine Ext.trans ?_ (by assumption))))) (by omega)).mono ?_; rintro e w' ⟨rfl, t, rfl⟩) | (go_at_call 101; (with_reducible refine (gwyClone_c xs a c n _ (H0.out.of (by ((try simp only [ext_drew]); (try simp only [ext_ext]); repeat (first | exact Ext.refl _ | with_reducible apply Ext.add | with_reducible apply Ext.dr | apply Ext.alloc | apply Ext.ext | apply Ext.drew | refine Ext.trans ?_ (by assumption))))) b0).mono ?_); rintro e w' ⟨p0, q0, rfl, ⟨t0, rfl⟩, ho⟩; have O := hid ho; clear ho)
        | (
          with_reducible refine wp_region_mix (by kernel_rfl) (by decide +kernel) ?_
          repeat (first
            | (refine mix_pure rfl ?_; (first | go_big_quiet_skip | (go_big_quiet_want; go_big_quiet_op; go_big_quiet_on)); refine wpQuiet_nil ?_)
            | (refine mix_skip (by rfl) ?_; (try simp only [Act.put, List.setIfInBounds_toArray, List.set_cons_zero, List.set_cons_succ]))
            | (refine mix_mk rfl (by rfl) (fun K hK => ?_); (first | (go_simp; first | (go_at_call 57; refine (iGwyOk_c _ _ _ _ _ _ (Re.of (Hid.out (by assumption)) (by ((try simp only [ext_drew]); (try simp only [ext_ext]); repeat (first | exact Ext.refl _ | with_reducible apply Ext.add | with_reducible apply Ext.dr | apply Ext.alloc | apply Ext.ext | apply Ext.drew | refine Ext.trans ?_ (by assumption))))) (by omega)).mono ?_; rintro e w' ⟨rfl, t, rfl⟩) | (go_at_call 101; (with_reducible refine (gwyClone_c xs a c n _ (H0.out.of (by ((try simp only [ext_drew]); (try simp only [ext_ext]); repeat (first | exact Ext.refl _ | with_reducible apply Ext.add | with_reducible apply Ext.dr | apply Ext.alloc | apply Ext.ext | apply Ext.drew | refine Ext.trans ?_ (by assumption))))) b0).mono ?_); rintro e w' ⟨p0, q0, rfl, ⟨t0, rfl⟩, ho⟩; have O := hid ho; clear ho) | skip)); (show K _ _); refine hK _ _ (show Ext _ _ from (by ((try simp only [ext_drew]); (try simp only [ext_ext]); repeat (first | exact Ext.refl _ | with_reducible apply Ext.add | with_reducible apply Ext.dr | apply Ext.alloc | apply Ext.ext | apply Ext.drew | refine Ext.trans ?_ (by assumption))))) ?_; clear hK K; (try simp only [Act.put, List.setIfInBounds_toArray, List.set_cons_zero, List.set_cons_succ])))
          refine mix_nil ?_)
        | (
          with_reducible refine wp_region_ext (by kernel_rfl) (by kernel_rfl) ?_
          repeat (first | go_big_quiet_skip | (go_big_quiet_want; go_big_quiet_op; first | go_big_quiet_on | (apply Exists.intro; refine ⟨fun _ => ?_, ?_⟩; ((first | (go_at_call 57; first | exact quiet_call (iGwyOk_c _ _ _ _ _ _ (Re.of (Hid.out (by assumption)) (by ((try simp only [ext_drew]); (try simp only [ext_ext]); repeat (first | exact Ext.refl _ | with_reducible apply Ext.add | with_reducible apply Ext.dr | apply Ext.alloc | apply Ext.ext | apply Ext.drew | refine Ext.trans ?_ (by assumption))))) (by omega)) | exact quiet_call2 (iGwyOk_c _ _ _ _ _ _ (Re.of (Hid.out (by assumption)) (by ((try simp only [ext_drew]); (try simp only [ext_ext]); repeat (first | exact Ext.refl _ | with_reducible apply Ext.add | with_reducible apply Ext.dr | apply Ext.alloc | apply Ext.ext | apply Ext.drew | refine Ext.trans ?_ (by assumption))))) (by omega))))); (try rw [h1]); (try rw [h2]); (try rw [h3]); (try rw [h4]); (try rw [p1]); (try rw [p2]); (try rw [p3]); (try rw [p4]); (try rw [r1]); (try rw [r2]); (try rw [r3]); (try rw [r4]); (try rw [r5]); (try rw [r6]); (try rw [q3]); (try rw [q4]); (try rw [hp]); (try rw [hq]); go_big_quiet_on)))
          refine wpQuiet_nil ?_
          rintro _ ⟨tq, rfl⟩))
    refine (ask_c xs p0 n q0 _ _ _ who kind to_ q _ (O.out.of (by ((try simp only [ext_drew]); (try simp only [ext_ext]); repeat (first | exact Ext.refl _ | with_reducible apply Ext.add | with_reducible apply Ext.dr | apply Ext.alloc | apply Ext.ext | apply Ext.drew | refine Ext.trans ?_ (by assumption))))) (Nat.le_of_eq (by simp [go_sem])) (by (try simp [go_sem]) <;> (try simp [Xt.add]) <;> omega) (by simp [go_sem]) HS.out b0).mono ?_
    rintro e w1 ⟨rfl, ho1, hc1⟩
    have g0 : w1.cell? ⟨w.heap.size + 1 + 1, 0, none⟩ = some (.slice none 0 0) := (hc1.cell (by (try simp [go_sem]) <;> (try simp [Xt.add]) <;> omega) (.inl (by (try simp [go_sem]) <;> (try simp [Xt.add]) <;> omega)) 0).trans (by simp [go_sem])
    have z0 : w1.frozen? ⟨w.heap.size + 1 + 1, 0, none⟩ = false := (hc1.frozen (by (try simp [go_sem]) <;> (try simp [Xt.add]) <;> omega) (.inl (by (try simp [go_sem]) <;> (try simp [Xt.add]) <;> omega)) 0).trans (by simp [go_sem])
    have e0 : w1.cell? ⟨w.heap.size + 1 + 1 + 1 + (t.add t0).bs.size, 0, none⟩ = some (.slice p0 n q0) := (hc1.cell (by (try simp [go_sem]) <;> (try simp [Xt.add]) <;> omega) (.inr (by (try simp [go_sem]) <;> (try simp [Xt.add]) <;> omega)) 0).trans (by simp [go_sem])
    have HC := hid hc1
    have HO := hid ho1
    clear hc1 ho1
    try go_wp2_with (first
        | fail
        | (
          with_reducible refine wp_region_mix (by kernel_rfl) (by decide +kernel) ?_
          repeat (first
            | (refine mix_pure rfl ?_; (first | go_big_quiet_skip | (go_big_quiet_want; go_big_quiet_op; go_big_quiet_on)); refine wpQuiet_nil ?_)
            | (refine mix_skip (by rfl) ?_; (try simp only [Act.put, List.setIfInBounds_toArray, List.set_cons_zero, List.set_cons_succ]))
            | (refine mix_mk rfl (by rfl) (fun K hK => ?_); (first | (go_simp; first | skip)); (show K _ _); refine hK _ _ (show Ext _ _ from (by ((try simp only [ext_drew]); (try simp only [ext_ext]); repeat (first | exact Ext.refl _ | with_reducible apply Ext.add | with_reducible apply Ext.dr | apply Ext.alloc | apply Ext.ext | apply Ext.drew | refine Ext.trans ?_ (by assumption))))) ?_; clear hK K; (try simp only [Act.put, List.setIfInBounds_toArray, List.set_cons_zero, List.set_cons_succ])))
          refine mix_nil ?_)
        | (
          with_reducible refine wp_region_ext (by kernel_rfl) (by kernel_rfl) ?_
          repeat (first | go_big_quiet_skip | (go_big_quiet_want; go_big_quiet_op; first | go_big_quiet_on | (apply Exists.intro; refine ⟨fun _ => ?_, ?_⟩; (fail); (try rw [h1]); (try rw [h2]); (try rw [h3]); (try rw [h4]); (try rw [p1]); (try rw [p2]); (try rw [p3]); (try rw [p4]); (try rw [r1]); (try rw [r2]); (try rw [r3]); (try rw [r4]); (try rw [r5]); (try rw [r6]); (try rw [q3]); (try rw [q4]); (try rw [hp]); (try rw [hq]); go_big_quiet_on)))
          refine wpQuiet_nil ?_
          rintro _ ⟨tq, rfl⟩))
    refine bodyPost_ret (v := .tuple #[.agg #[.slice p0 n q0], .bool (askB xs who kind to_ q)]) (by simp [results, Try.results64, go_sem, g0, e0]) rfl ?_
    refine ⟨_, _, rfl, ?_⟩
    exact fin_res (w := w) (by ((try simp only [ext_drew]); (try simp only [ext_ext]); repeat (first | exact Ext.refl _ | with_reducible apply Ext.add | with_reducible apply Ext.dr | apply Ext.alloc | apply Ext.ext | apply Ext.drew | refine Ext.trans ?_ (by assumption)))) HC.out HO.out (R := w.heap.size + 1 + 1) (by (try simp [go_sem]) <;> (try simp [Xt.add]) <;> omega) (by (try simp [go_sem]) <;> (try simp [Xt.add]) <;> omega) (by repeat (first | with_reducible exact Chg.refl _ _ | with_reducible apply Chg.drew | with_reducible apply Chg.drewl | with_reducible refine Chg.turn (by simp) | with_reducible refine Chg.both ?_ (by simp) | (with_reducible refine Chg.set ?_ (by simp) _) | with_reducible apply Chg.alloc | with_reducible apply Chg.ext))

set_option maxRecDepth 100000 in
set_option maxHeartbeats 4000000 in
theorem sGwyAsk_c (m : Mp) (xs : List Row) (a : Option Addr) (n c : Nat) (who kind to_ q : Int) (w : World) (h0 : Re w (.sl sRow) [.slice a n c] (.l (xs.map Row.dat))) (b0 : n ≤ 1048576) :
    Calls Try.prog 63 #[.agg #[.int .i64 m.c, .int .i64 m.w], .agg #[.slice a n c], .int .i64 who, .int .i64 kind, .int .i64 to_, .int .i64 q] w (MadeGwyB w (gaL m xs who kind to_ q).length (gaL m xs who kind to_ q) (gaB m xs who kind to_ q)) := by
  have H0 := hid h0
  have L0 := hid h0.len
  clear h0
  cases h : gwyOk m xs with
  | false =>
    go_enter Try.func63, Try.ntmps63
    try go_wp2_with (first
        | (go_at_call 55; refine (sGwyOk_c _ _ _ _ _ _ (Re.of (Hid.out (by assumption)) (by ((try simp only [ext_drew]); (try simp only [ext_ext]); repeat (first | exact Ext.refl _ | with_reducible apply Ext.add | with_reducible apply Ext.dr | apply Ext.alloc | apply Ext.ext | apply Ext.drew | refine Ext.trans ?_ (by assumption))))) (by omega)).mono ?_; rintro e w' ⟨rfl, t, rfl⟩)
        | (
          with_reducible refine wp_region_mix (by kernel_rfl) (by decide +kernel) ?_
          repeat (first
            | (refine mix_pure rfl ?_; (first | go_big_quiet_skip | (go_big_quiet_want; go_big_quiet_op; go_big_quiet_on)); refine wpQuiet_nil ?_)
            | (refine mix_skip (by rfl) ?_; (try simp only [Act.put, List.setIfInBounds_toArray, List.set_cons_zero, List.set_cons_succ]))
            | (refine mix_mk rfl (by rfl) (fun K hK => ?_); (first | (go_simp; first | (go_at_call 55; refine (sGwyOk_c _ _ _ _ _ _ (Re.of (Hid.out (by assumption)) (by ((try simp only [ext_drew]); (try simp only [ext_ext]); repeat (first | exact Ext.refl _ | with_reducible apply Ext.add | with_reducible apply Ext.dr | apply Ext.alloc | apply Ext.ext | apply Ext.drew | refine Ext.trans ?_ (by assumption))))) (by omega)).mono ?_; rintro e w' ⟨rfl, t, rfl⟩) | skip)); (show K _ _); refine hK _ _ (show Ext _ _ from (by ((try simp only [ext_drew]); (try simp only [ext_ext]); repeat (first | exact Ext.refl _ | with_reducible apply Ext.add | with_reducible apply Ext.dr | apply Ext.alloc | apply Ext.ext | apply Ext.drew | refine Ext.trans ?_ (by assumption))))) ?_; clear hK K; (try simp only [Act.put, List.setIfInBounds_toArray, List.set_cons_zero, List.set_cons_succ])))
          refine mix_nil ?_)
        | (
          with_reducible refine wp_region_ext (by kernel_rfl) (by kernel_rfl) ?_
          repeat (first | go_big_quiet_skip | (go_big_quiet_want; go_big_quiet_op; first | go_big_quiet_on | (apply Exists.intro; refine ⟨fun _ => ?_, ?_⟩; ((first | (go_at_call 55; first | exact quiet_call (sGwyOk_c _ _ _ _ _ _ (Re.of (Hid.out (by assumption)) (by ((try simp only [ext_drew]); (try simp only [ext_ext]); repeat (first | exact Ext.refl _ | with_reducible apply Ext.add | with_reducible apply Ext.dr | apply Ext.alloc | apply Ext.ext | apply Ext.drew | refine Ext.trans ?_ (by assumption))))) (by omega)) | exact quiet_call2 (sGwyOk_c _ _ _ _ _ _ (Re.of (Hid.out (by assumption)) (by ((try simp only [ext_drew]); (try simp only [ext_ext]); repeat (first | exact Ext.refl _ | with_reducible apply Ext.add | with_reducible apply Ext.dr | apply Ext.alloc | apply Ext.ext | apply Ext.drew | refine Ext.trans ?_ (by assumption))))) (by omega))))); (try rw [h1]); (try rw [h2]); (try rw [h3]); (try rw [h4]); (try rw [p1]); (try rw [p2]); (try rw [p3]); (try rw [p4]); (try rw [r1]); (try rw [r2]); (try rw [r3]); (try rw [r4]); (try rw [r5]); (try rw [r6]); (try rw [q3]); (try rw [q4]); (try rw [hp]); (try rw [hq]); go_big_quiet_on)))
          refine wpQuiet_nil ?_
          rintro _ ⟨tq, rfl⟩))
    refine bodyPost_ret (v := .tuple #[.agg #[.slice none 0 0], .bool false]) (by simp [results, Try.results63, go_sem]) rfl ?_
    rw [show gaL m xs who kind to_ q = [] by rw [gaL, h]; rfl, show gaB m xs who kind to_ q = false by rw [gaB, h]; rfl]
    refine ⟨_, _, rfl, (by ((try simp only [ext_drew]); (try simp only [ext_ext]); repeat (first | exact Ext.refl _ | with_reducible apply Ext.add | with_reducible apply Ext.dr | apply Ext.alloc | apply Ext.ext | apply Ext.drew | refine Ext.trans ?_ (by assumption)))), ?_⟩
    exact ⟨Nat.le_refl _, [], by simp, by simp, own_Gwy_nil _⟩
  | true =>
    have F := gwyOk_facts h
    have p1 := F.1
    have HS := hid F.2
    have E0 := hid (show gaL m xs who kind to_ q = askL xs who kind to_ q by rw [gaL, h]; rfl)
    have EB := hid (show gaB m xs who kind to_ q = askB xs who kind to_ q by rw [gaB, h]; rfl)
    have LE := hid (show (gaL m xs who kind to_ q).length = n by rw [E0.out, askL_len]; exact L0.out.symm)
    clear F
    rw [LE.out, E0.out, EB.out]
    go_enter Try.func63, Try.ntmps63
    try go_wp2_with (first
        | (go_at_call 55; refine (sGwyOk_c _ _ _ _ _ _ (Re.of (Hid.out (by assumption)) (by ((try simp only [ext_drew]); (try simp only [ext_ext]); repeat (first | exact Ext.refl _ | with_reducible apply Ext.add | with_reducible apply Ext.dr | apply Ext.alloc | apply Ext.ext | apply Ext.drew | refine Ext.trans ?_ (by assumption))))) (by omega)).mono ?_; rintro e w' ⟨rfl, t, rfl⟩) | (go_at_call 98; (with_reducible refine (l12Copy_c xs a c n _ (H0.out.of (by ((try simp only [ext_drew]); (try simp only [ext_ext]); repeat (first | exact Ext.refl _ | with_reducible apply Ext.add | with_reducible apply Ext.dr | apply Ext.alloc | apply Ext.ext | apply Ext.drew | refine Ext.trans ?_ (by assumption))))) b0).mono ?_); rintro e w' ⟨p0, q0, rfl, ⟨t0, rfl⟩, ho⟩; have O := hid ho; clear ho)
        | (
          with_reducible refine wp_region_mix (by kernel_rfl) (by decide +kernel) ?_
          repeat (first
            | (refine mix_pure rfl ?_; (first | go_big_quiet_skip | (go_big_quiet_want; go_big_quiet_op; go_big_quiet_on)); refine wpQuiet_nil ?_)
            | (refine mix_skip (by rfl) ?_; (try simp only [Act.put, List.setIfInBounds_toArray, List.set_cons_zero, List.set_cons_succ]))
            | (refine mix_mk rfl (by rfl) (fun K hK => ?_); (first | (go_simp; first | (go_at_call 55; refine (sGwyOk_c _ _ _ _ _ _ (Re.of (Hid.out (by assumption)) (by ((try simp only [ext_drew]); (try simp only [ext_ext]); repeat (first | exact Ext.refl _ | with_reducible apply Ext.add | with_reducible apply Ext.dr | apply Ext.alloc | apply Ext.ext | apply Ext.drew | refine Ext.trans ?_ (by assumption))))) (by omega)).mono ?_; rintro e w' ⟨rfl, t, rfl⟩) | (go_at_call 98; (with_reducible refine (l12Copy_c xs a c n _ (H0.out.of (by ((try simp only [ext_drew]); (try simp only [ext_ext]); repeat (first | exact Ext.refl _ | with_reducible apply Ext.add | with_reducible apply Ext.dr | apply Ext.alloc | apply Ext.ext | apply Ext.drew | refine Ext.trans ?_ (by assumption))))) b0).mono ?_); rintro e w' ⟨p0, q0, rfl, ⟨t0, rfl⟩, ho⟩; have O := hid ho; clear ho) | skip)); (show K _ _); refine hK _ _ (show Ext _ _ from (by ((try simp only [ext_drew]); (try simp only [ext_ext]); repeat (first | exact Ext.refl _ | with_reducible apply Ext.add | with_reducible apply Ext.dr | apply Ext.alloc | apply Ext.ext | apply Ext.drew | refine Ext.trans ?_ (by assumption))))) ?_; clear hK K; (try simp only [Act.put, List.setIfInBounds_toArray, List.set_cons_zero, List.set_cons_succ])))
          refine mix_nil ?_)
        | (
          with_reducible refine wp_region_ext (by kernel_rfl) (by kernel_rfl) ?_
          repeat (first | go_big_quiet_skip | (go_big_quiet_want; go_big_quiet_op; first | go_big_quiet_on | (apply Exists.intro; refine ⟨fun _ => ?_, ?_⟩; ((first | (go_at_call 55; first | exact quiet_call (sGwyOk_c _ _ _ _ _ _ (Re.of (Hid.out (by assumption)) (by ((try simp only [ext_drew]); (try simp only [ext_ext]); repeat (first | exact Ext.refl _ | with_reducible apply Ext.add | with_reducible apply Ext.dr | apply Ext.alloc | apply Ext.ext | apply Ext.drew | refine Ext.trans ?_ (by assumption))))) (by omega)) | exact quiet_call2 (sGwyOk_c _ _ _ _ _ _ (Re.of (Hid.out (by assumption)) (by ((try simp only [ext_drew]); (try simp only [ext_ext]); repeat (first | exact Ext.refl _ | with_reducible apply Ext.add | with_reducible apply Ext.dr | apply Ext.alloc | apply Ext.ext | apply Ext.drew | refine Ext.trans ?_ (by assumption))))) (by omega))))); (try rw [h1]); (try rw [h2]); (try rw [h3]); (try rw [h4]); (try rw [p1]); (try rw [p2]); (try rw [p3]); (try rw [p4]); (try rw [r1]); (try rw [r2]); (try rw [r3]); (try rw [r4]); (try rw [r5]); (try rw [r6]); (try rw [q3]); (try rw [q4]); (try rw [hp]); (try rw [hq]); go_big_quiet_on)))
          refine wpQuiet_nil ?_
          rintro _ ⟨tq, rfl⟩))
    refine calls_gen fun W hW => ?_
    generalize hP : w.heap.size + 1 + 1 + 1 + (t.add t0).bs.size = P
    generalize hR0 : w.heap.size + 1 + 1 = R
    have hEW : Ext w W := by rw [hW]; ((try simp only [ext_drew]); (try simp only [ext_ext]); repeat (first | exact Ext.refl _ | with_reducible apply Ext.add | with_reducible apply Ext.dr | apply Ext.alloc | apply Ext.ext | apply Ext.drew | refine Ext.trans ?_ (by assumption)))
    have AW := hid (OwnR.of O.out (w' := W) (by rw [hW]; ((try simp only [ext_drew]); (try simp only [ext_ext]); repeat (first | exact Ext.refl _ | with_reducible apply Ext.add | with_reducible apply Ext.dr | apply Ext.alloc | apply Ext.ext | apply Ext.drew | refine Ext.trans ?_ (by assumption)))))
    have cR : W.cell? ⟨R, 0, none⟩ = some (.slice none 0 0) := by rw [← hR0, hW]; simp [go_sem]
    have zR : W.frozen? ⟨R, 0, none⟩ = false := by rw [← hR0, hW]; simp [go_sem]
    have cP : W.cell? ⟨P, 0, none⟩ = some (.slice p0 n q0) := by rw [← hP, hW]; simp [go_sem]
    have lR : R < W.heap.size := by rw [← hR0, hW]; ((try simp [go_sem]) <;> (try simp [Xt.add]) <;> omega)
    have lP : P < W.heap.size := by rw [← hP, hW]; ((try simp [go_sem]) <;> (try simp [Xt.add]) <;> omega)
    have hRw : w.heap.size ≤ R := by omega
    have HPD := hid hP
    have HRD := hid hR0
    clear hW O hP hR0
    obtain ⟨hh, B, hn, hr, ho⟩ := id AW.out
    have O0 := own_Gwy_one ho
    clear ho
    have HO0 := hid O0
    have HH := hid hh
    have HND := hid hn
    have HR := hid hr
    have HX := hid (O0.re (fun b hb => Nat.lt_of_lt_of_le (hr b hb).2 hh))
    clear hh hn hr O0
    rcases place_lt (p := isWho who) (xs := xs) (i := 0) with ⟨h1, h2⟩ | ⟨k, x, h1, h2, h3, h4⟩
    · have E := hid (ask_none h2 kind to_ q).1
      have E0' := hid (ask_none h2 kind to_ q).2
      have H1 : rowPlace xs who = -1 := h1
      clear h1 h2
      try go_wp2_with (first
          | (go_at_call 99; refine (l12At_c _ _ _ _ _ _ (Re.of (Hid.out (by assumption)) (by ((try simp only [ext_drew]); (try simp only [ext_ext]); repeat (first | exact Ext.refl _ | with_reducible apply Ext.add | with_reducible apply Ext.dr | apply Ext.alloc | apply Ext.ext | apply Ext.drew | refine Ext.trans ?_ (by assumption))))) (by omega)).mono ?_; rintro e w' ⟨rfl, t, rfl⟩)
          | (
            with_reducible refine wp_region_mix (by kernel_rfl) (by decide +kernel) ?_
            repeat (first
              | (refine mix_pure rfl ?_; (first | go_big_quiet_skip | (go_big_quiet_want; go_big_quiet_op; go_big_quiet_on)); refine wpQuiet_nil ?_)
              | (refine mix_skip (by rfl) ?_; (try simp only [Act.put, List.setIfInBounds_toArray, List.set_cons_zero, List.set_cons_succ]))
              | (refine mix_mk rfl (by rfl) (fun K hK => ?_); (first | (go_simp; first | (go_at_call 99; refine (l12At_c _ _ _ _ _ _ (Re.of (Hid.out (by assumption)) (by ((try simp only [ext_drew]); (try simp only [ext_ext]); repeat (first | exact Ext.refl _ | with_reducible apply Ext.add | with_reducible apply Ext.dr | apply Ext.alloc | apply Ext.ext | apply Ext.drew | refine Ext.trans ?_ (by assumption))))) (by omega)).mono ?_; rintro e w' ⟨rfl, t, rfl⟩) | skip)); (show K _ _); refine hK _ _ (show Ext _ _ from (by ((try simp only [ext_drew]); (try simp only [ext_ext]); repeat (first | exact Ext.refl _ | with_reducible apply Ext.add | with_reducible apply Ext.dr | apply Ext.alloc | apply Ext.ext | apply Ext.drew | refine Ext.trans ?_ (by assumption))))) ?_; clear hK K; (try simp only [Act.put, List.setIfInBounds_toArray, List.set_cons_zero, List.set_cons_succ])))
            refine mix_nil ?_)
          | (
            with_reducible refine wp_region_ext (by kernel_rfl) (by kernel_rfl) ?_
            repeat (first | go_big_quiet_skip | (go_big_quiet_want; go_big_quiet_op; first | go_big_quiet_on | (apply Exists.intro; refine ⟨fun _ => ?_, ?_⟩; ((first | (go_at_call 99; first | exact quiet_call (l12At_c _ _ _ _ _ _ (Re.of (Hid.out (by assumption)) (by ((try simp only [ext_drew]); (try simp only [ext_ext]); repeat (first | exact Ext.refl _ | with_reducible apply Ext.add | with_reducible apply Ext.dr | apply Ext.alloc | apply Ext.ext | apply Ext.drew | refine Ext.trans ?_ (by assumption))))) (by omega)) | exact quiet_call2 (l12At_c _ _ _ _ _ _ (Re.of (Hid.out (by assumption)) (by ((try simp only [ext_drew]); (try simp only [ext_ext]); repeat (first | exact Ext.refl _ | with_reducible apply Ext.add | with_reducible apply Ext.dr | apply Ext.alloc | apply Ext.ext | apply Ext.drew | refine Ext.trans ?_ (by assumption))))) (by omega))))); (try rw [h1]); (try rw [h2]); (try rw [h3]); (try rw [h4]); (try rw [p1]); (try rw [p2]); (try rw [p3]); (try rw [p4]); (try rw [r1]); (try rw [r2]); (try rw [r3]); (try rw [r4]); (try rw [r5]); (try rw [r6]); (try rw [q3]); (try rw [q4]); (try rw [hp]); (try rw [hq]); go_big_quiet_on)))
            refine wpQuiet_nil ?_
            rintro _ ⟨tq, rfl⟩))
      refine bodyPost_ret (v := .tuple #[.agg #[.slice p0 n q0], .bool false]) (by simp [results, Try.results63, go_sem, cP, cR, lR, lP]) rfl ?_
      refine ⟨_, _, by rw [E.out], ?_⟩
      rw [E0'.out]
      exact fin_same hEW AW.out (R := R) hRw (by have := HRD.out; rw [← this]; ((try simp [go_sem]) <;> (try simp [Xt.add]) <;> omega)) (by repeat (first | with_reducible exact Chg.refl _ _ | with_reducible apply Chg.drew | with_reducible apply Chg.drewl | with_reducible refine Chg.turn (by simp) | with_reducible refine Chg.both ?_ (by simp) | (with_reducible refine Chg.set ?_ (by simp) _) | with_reducible apply Chg.alloc | with_reducible apply Chg.ext))
    · have H1 : rowPlace xs who = (k : Int) := by rw [rowPlace, h1]; simp
      have hk : k < n := by rw [HX.out.len]; exact (List.getElem?_eq_some_iff.1 h2).1
      have A := ask_some h2 h3 h4 H1 kind to_ q
      have HA := hid A
      have hs := HS.out x (List.mem_of_getElem? h2)
      have s1 := hs.1
      have s2 := hs.2
      have hk1 : ¬ (k : Int) = -1 := by omega
      obtain ⟨u, arr, T, y, rfl, rfl, hl, hy, hb, hsz, hcell, hput⟩ := own_at_Row HO0.out hk
      obtain rfl : x = y := Option.some.inj (h2.symm.trans hy)
      have hr0 := HR.out u (by simp)
      have hu0 : w.heap.size + 1 + 1 + 1 ≤ u := Nat.le_trans (by (try simp [go_sem]) <;> (try simp [Xt.add]) <;> omega) hr0.1
      have hu1 : u < w.heap.size + 1 + 1 + 1 + (t.add t0).bs.size := Nat.lt_of_lt_of_le hr0.2 (Nat.le_of_eq (by simp [go_sem]))
      have hPD := HPD.out
      have hRD := HRD.out
      have n1 : u ≠ R := by omega
      have n2 : R ≠ u := by omega
      have n3 : u ≠ P := by omega
      have n4 : P ≠ u := by omega
      clear hPD hRD
      have g2 : W.cell? ⟨u, k * 10 + 2, none⟩ = some (.bool x.busy) := (cell_blk hb _).trans (hcell 2 _ rfl)
      have g3 : W.cell? ⟨u, k * 10 + 3, none⟩ = some (.int .i64 x.ord.who) := (cell_blk hb _).trans (hcell 3 _ rfl)
      have g4 : W.cell? ⟨u, k * 10 + 4, none⟩ = some (.int .i64 x.ord.seq) := (cell_blk hb _).trans (hcell 4 _ rfl)
      have g5 : W.cell? ⟨u, k * 10 + 5, none⟩ = some (.int .i64 x.ord.kind) := (cell_blk hb _).trans (hcell 5 _ rfl)
      have g6 : W.cell? ⟨u, k * 10 + 6, none⟩ = some (.int .i64 x.ord.to_) := (cell_blk hb _).trans (hcell 6 _ rfl)
      have g7 : W.cell? ⟨u, k * 10 + 7, none⟩ = some (.int .i64 x.ord.n) := (cell_blk hb _).trans (hcell 7 _ rfl)
      have g8 : W.cell? ⟨u, k * 10 + 8, none⟩ = some (.int .i64 x.seq) := (cell_blk hb _).trans (hcell 8 _ rfl)
      have z2 := frozen_blk hb (k * 10 + 2)
      have z3 := frozen_blk hb (k * 10 + 3)
      have z4 := frozen_blk hb (k * 10 + 4)
      have z5 := frozen_blk hb (k * 10 + 5)
      have z6 := frozen_blk hb (k * 10 + 6)
      have z7 := frozen_blk hb (k * 10 + 7)
      have hu := lt_blk hb
      have HB := hid hb
      have HZ := hid hsz
      have HC := hid hcell
      have HP := hid hput
      clear hb hsz hcell hput hy h1 h2 h3 h4 A hs hl
      rcases (show x.busy = true ∨ x.busy = false by cases x.busy <;> simp) with r5 | r5
      · have E := hid (show askB xs who kind to_ q = false by rw [HA.out.1, r5]; rfl)
        have E0' := hid (show askL xs who kind to_ q = xs by rw [HA.out.2, r5]; rfl)
        try go_wp2_with (first
            | (go_at_call 99; refine (l12At_c _ _ _ _ _ _ (Re.of (Hid.out (by assumption)) (by ((try simp only [ext_drew]); (try simp only [ext_ext]); repeat (first | exact Ext.refl _ | with_reducible apply Ext.add | with_reducible apply Ext.dr | apply Ext.alloc | apply Ext.ext | apply Ext.drew | refine Ext.trans ?_ (by assumption))))) (by omega)).mono ?_; rintro e w' ⟨rfl, t, rfl⟩)
            | (
              with_reducible refine wp_region_mix (by kernel_rfl) (by decide +kernel) ?_
              repeat (first
                | (refine mix_pure rfl ?_; (first | go_big_quiet_skip | (go_big_quiet_want; go_big_quiet_op; go_big_quiet_on)); refine wpQuiet_nil ?_)
                | (refine mix_skip (by rfl) ?_; (try simp only [Act.put, List.setIfInBounds_toArray, List.set_cons_zero, List.set_cons_succ]))
                | (refine mix_mk rfl (by rfl) (fun K hK => ?_); (first | (go_simp; first | (go_at_call 99; refine (l12At_c _ _ _ _ _ _ (Re.of (Hid.out (by assumption)) (by ((try simp only [ext_drew]); (try simp only [ext_ext]); repeat (first | exact Ext.refl _ | with_reducible apply Ext.add | with_reducible apply Ext.dr | apply Ext.alloc | apply Ext.ext | apply Ext.drew | refine Ext.trans ?_ (by assumption))))) (by omega)).mono ?_; rintro e w' ⟨rfl, t, rfl⟩) | skip)); (show K _ _); refine hK _ _ (show Ext _ _ from (by ((try simp only [ext_drew]); (try simp only [ext_ext]); repeat (first | exact Ext.refl _ | with_reducible apply Ext.add | with_reducible apply Ext.dr | apply Ext.alloc | apply Ext.ext | apply Ext.drew | refine Ext.trans ?_ (by assumption))))) ?_; clear hK K; (try simp only [Act.put, List.setIfInBounds_toArray, List.set_cons_zero, List.set_cons_succ])))
              refine mix_nil ?_)
            | (
              with_reducible refine wp_region_ext (by kernel_rfl) (by kernel_rfl) ?_
              repeat (first | go_big_quiet_skip | (go_big_quiet_want; go_big_quiet_op; first | go_big_quiet_on | (apply Exists.intro; refine ⟨fun _ => ?_, ?_⟩; ((first | (go_at_call 99; first | exact quiet_call (l12At_c _ _ _ _ _ _ (Re.of (Hid.out (by assumption)) (by ((try simp only [ext_drew]); (try simp only [ext_ext]); repeat (first | exact Ext.refl _ | with_reducible apply Ext.add | with_reducible apply Ext.dr | apply Ext.alloc | apply Ext.ext | apply Ext.drew | refine Ext.trans ?_ (by assumption))))) (by omega)) | exact quiet_call2 (l12At_c _ _ _ _ _ _ (Re.of (Hid.out (by assumption)) (by ((try simp only [ext_drew]); (try simp only [ext_ext]); repeat (first | exact Ext.refl _ | with_reducible apply Ext.add | with_reducible apply Ext.dr | apply Ext.alloc | apply Ext.ext | apply Ext.drew | refine Ext.trans ?_ (by assumption))))) (by omega))))); (try rw [h1]); (try rw [h2]); (try rw [h3]); (try rw [h4]); (try rw [p1]); (try rw [p2]); (try rw [p3]); (try rw [p4]); (try rw [r1]); (try rw [r2]); (try rw [r3]); (try rw [r4]); (try rw [r5]); (try rw [r6]); (try rw [q3]); (try rw [q4]); (try rw [hp]); (try rw [hq]); go_big_quiet_on)))
              refine wpQuiet_nil ?_
              rintro _ ⟨tq, rfl⟩))
        refine bodyPost_ret (v := .tuple #[.agg #[.slice (some ⟨u, 0, none⟩) n q0], .bool false]) (by simp [results, Try.results63, go_sem, cP, cR, lR, lP]) rfl ?_
        refine ⟨_, _, by rw [E.out], ?_⟩
        rw [E0'.out]
        exact fin_same hEW AW.out (R := R) hRw (by have := HRD.out; rw [← this]; ((try simp [go_sem]) <;> (try simp [Xt.add]) <;> omega)) (by repeat (first | with_reducible exact Chg.refl _ _ | with_reducible apply Chg.drew | with_reducible apply Chg.drewl | with_reducible refine Chg.turn (by simp) | with_reducible refine Chg.both ?_ (by simp) | (with_reducible refine Chg.set ?_ (by simp) _) | with_reducible apply Chg.alloc | with_reducible apply Chg.ext))
      · cases r6 : ordOk ⟨who, x.seq + 1, kind, to_, q⟩ with
        | false =>
          have E := hid (show askB xs who kind to_ q = false by rw [HA.out.1, r5, askOrd, r6]; rfl)
          have E0' := hid (show askL xs who kind to_ q = xs by rw [HA.out.2, r5, askOrd, r6]; rfl)
          try go_wp2_with (first
              | (go_at_call 99; refine (l12At_c _ _ _ _ _ _ (Re.of (Hid.out (by assumption)) (by ((try simp only [ext_drew]); (try simp only [ext_ext]); repeat (first | exact Ext.refl _ | with_reducible apply Ext.add | with_reducible apply Ext.dr | apply Ext.alloc | apply Ext.ext | apply Ext.drew | refine Ext.trans ?_ (by assumption))))) (by omega)).mono ?_; rintro e w' ⟨rfl, t, rfl⟩) | (go_at_call 100; (with_reducible refine (sOrdOk_c ⟨who, x.seq + 1, kind, to_, q⟩ _).mono ?_); rintro e w' ⟨rfl, t', rfl⟩)
              | (
                with_reducible refine wp_region_mix (by kernel_rfl) (by decide +kernel) ?_
                repeat (first
                  | (refine mix_pure rfl ?_; (first | go_big_quiet_skip | (go_big_quiet_want; go_big_quiet_op; go_big_quiet_on)); refine wpQuiet_nil ?_)
                  | (refine mix_skip (by rfl) ?_; (try simp only [Act.put, List.setIfInBounds_toArray, List.set_cons_zero, List.set_cons_succ]))
                  | (refine mix_mk rfl (by rfl) (fun K hK => ?_); (first | (go_simp; first | (go_at_call 99; refine (l12At_c _ _ _ _ _ _ (Re.of (Hid.out (by assumption)) (by ((try simp only [ext_drew]); (try simp only [ext_ext]); repeat (first | exact Ext.refl _ | with_reducible apply Ext.add | with_reducible apply Ext.dr | apply Ext.alloc | apply Ext.ext | apply Ext.drew | refine Ext.trans ?_ (by assumption))))) (by omega)).mono ?_; rintro e w' ⟨rfl, t, rfl⟩) | (go_at_call 100; (with_reducible refine (sOrdOk_c ⟨who, x.seq + 1, kind, to_, q⟩ _).mono ?_); rintro e w' ⟨rfl, t', rfl⟩) | skip)); (show K _ _); refine hK _ _ (show Ext _ _ from (by ((try simp only [ext_drew]); (try simp only [ext_ext]); repeat (first | exact Ext.refl _ | with_reducible apply Ext.add | with_reducible apply Ext.dr | apply Ext.alloc | apply Ext.ext | apply Ext.drew | refine Ext.trans ?_ (by assumption))))) ?_; clear hK K; (try simp only [Act.put, List.setIfInBounds_toArray, List.set_cons_zero, List.set_cons_succ])))
                refine mix_nil ?_)
              | (
                with_reducible refine wp_region_ext (by kernel_rfl) (by kernel_rfl) ?_
                repeat (first | go_big_quiet_skip | (go_big_quiet_want; go_big_quiet_op; first | go_big_quiet_on | (apply Exists.intro; refine ⟨fun _ => ?_, ?_⟩; ((first | (go_at_call 99; first | exact quiet_call (l12At_c _ _ _ _ _ _ (Re.of (Hid.out (by assumption)) (by ((try simp only [ext_drew]); (try simp only [ext_ext]); repeat (first | exact Ext.refl _ | with_reducible apply Ext.add | with_reducible apply Ext.dr | apply Ext.alloc | apply Ext.ext | apply Ext.drew | refine Ext.trans ?_ (by assumption))))) (by omega)) | exact quiet_call2 (l12At_c _ _ _ _ _ _ (Re.of (Hid.out (by assumption)) (by ((try simp only [ext_drew]); (try simp only [ext_ext]); repeat (first | exact Ext.refl _ | with_reducible apply Ext.add | with_reducible apply Ext.dr | apply Ext.alloc | apply Ext.ext | apply Ext.drew | refine Ext.trans ?_ (by assumption))))) (by omega))))); (try rw [h1]); (try rw [h2]); (try rw [h3]); (try rw [h4]); (try rw [p1]); (try rw [p2]); (try rw [p3]); (try rw [p4]); (try rw [r1]); (try rw [r2]); (try rw [r3]); (try rw [r4]); (try rw [r5]); (try rw [r6]); (try rw [q3]); (try rw [q4]); (try rw [hp]); (try rw [hq]); go_big_quiet_on)))
                refine wpQuiet_nil ?_
                rintro _ ⟨tq, rfl⟩))
          refine bodyPost_ret (v := .tuple #[.agg #[.slice (some ⟨u, 0, none⟩) n q0], .bool false]) (by simp [results, Try.results63, go_sem, cP, cR, lR, lP]) rfl ?_
          refine ⟨_, _, by rw [E.out], ?_⟩
          rw [E0'.out]
          exact fin_same hEW AW.out (R := R) hRw (by have := HRD.out; rw [← this]; ((try simp [go_sem]) <;> (try simp [Xt.add]) <;> omega)) (by repeat (first | with_reducible exact Chg.refl _ _ | with_reducible apply Chg.drew | with_reducible apply Chg.drewl | with_reducible refine Chg.turn (by simp) | with_reducible refine Chg.both ?_ (by simp) | (with_reducible refine Chg.set ?_ (by simp) _) | with_reducible apply Chg.alloc | with_reducible apply Chg.ext))
        | true =>
          have E := hid (show askB xs who kind to_ q = true by rw [HA.out.1, r5, askOrd, r6]; rfl)
          have E0' := hid (show askL xs who kind to_ q = xs.set k (askRow x who kind to_ q) by rw [HA.out.2, r5, askOrd, r6]; rfl)
          try go_wp2_with (first
              | (go_at_call 99; refine (l12At_c _ _ _ _ _ _ (Re.of (Hid.out (by assumption)) (by ((try simp only [ext_drew]); (try simp only [ext_ext]); repeat (first | exact Ext.refl _ | with_reducible apply Ext.add | with_reducible apply Ext.dr | apply Ext.alloc | apply Ext.ext | apply Ext.drew | refine Ext.trans ?_ (by assumption))))) (by omega)).mono ?_; rintro e w' ⟨rfl, t, rfl⟩) | (go_at_call 100; (with_reducible refine (sOrdOk_c ⟨who, x.seq + 1, kind, to_, q⟩ _).mono ?_); rintro e w' ⟨rfl, t', rfl⟩)
              | (
                with_reducible refine wp_region_mix (by kernel_rfl) (by decide +kernel) ?_
                repeat (first
                  | (refine mix_pure rfl ?_; (first | go_big_quiet_skip | (go_big_quiet_want; go_big_quiet_op; go_big_quiet_on)); refine wpQuiet_nil ?_)
                  | (refine mix_skip (by rfl) ?_; (try simp only [Act.put, List.setIfInBounds_toArray, List.set_cons_zero, List.set_cons_succ]))
                  | (refine mix_mk rfl (by rfl) (fun K hK => ?_); (first | (go_simp; first | (go_at_call 99; refine (l12At_c _ _ _ _ _ _ (Re.of (Hid.out (by assumption)) (by ((try simp only [ext_drew]); (try simp only [ext_ext]); repeat (first | exact Ext.refl _ | with_reducible apply Ext.add | with_reducible apply Ext.dr | apply Ext.alloc | apply Ext.ext | apply Ext.drew | refine Ext.trans ?_ (by assumption))))) (by omega)).mono ?_; rintro e w' ⟨rfl, t, rfl⟩) | (go_at_call 100; (with_reducible refine (sOrdOk_c ⟨who, x.seq + 1, kind, to_, q⟩ _).mono ?_); rintro e w' ⟨rfl, t', rfl⟩) | skip)); (show K _ _); refine hK _ _ (show Ext _ _ from (by ((try simp only [ext_drew]); (try simp only [ext_ext]); repeat (first | exact Ext.refl _ | with_reducible apply Ext.add | with_reducible apply Ext.dr | apply Ext.alloc | apply Ext.ext | apply Ext.drew | refine Ext.trans ?_ (by assumption))))) ?_; clear hK K; (try simp only [Act.put, List.setIfInBounds_toArray, List.set_cons_zero, List.set_cons_succ])))
                refine mix_nil ?_)
              | (
                with_reducible refine wp_region_ext (by kernel_rfl) (by kernel_rfl) ?_
                repeat (first | go_big_quiet_skip | (go_big_quiet_want; go_big_quiet_op; first | go_big_quiet_on | (apply Exists.intro; refine ⟨fun _ => ?_, ?_⟩; ((first | (go_at_call 99; first | exact quiet_call (l12At_c _ _ _ _ _ _ (Re.of (Hid.out (by assumption)) (by ((try simp only [ext_drew]); (try simp only [ext_ext]); repeat (first | exact Ext.refl _ | with_reducible apply Ext.add | with_reducible apply Ext.dr | apply Ext.alloc | apply Ext.ext | apply Ext.drew | refine Ext.trans ?_ (by assumption))))) (by omega)) | exact quiet_call2 (l12At_c _ _ _ _ _ _ (Re.of (Hid.out (by assumption)) (by ((try simp only [ext_drew]); (try simp only [ext_ext]); repeat (first | exact Ext.refl _ | with_reducible apply Ext.add | with_reducible apply Ext.dr | apply Ext.alloc | apply Ext.ext | apply Ext.drew | refine Ext.trans ?_ (by assumption))))) (by omega))))); (try rw [h1]); (try rw [h2]); (try rw [h3]); (try rw [h4]); (try rw [p1]); (try rw [p2]); (try rw [p3]); (try rw [p4]); (try rw [r1]); (try rw [r2]); (try rw [r3]); (try rw [r4]); (try rw [r5]); (try rw [r6]); (try rw [q3]); (try rw [q4]); (try rw [hp]); (try rw [hq]); go_big_quiet_on)))
                refine wpQuiet_nil ?_
                rintro _ ⟨tq, rfl⟩))
          refine bodyPost_ret (v := .tuple #[.agg #[.slice (some ⟨u, 0, none⟩) n q0], .bool true]) (by simp [results, Try.results63, go_sem, cP, cR, lR, lP, n1, n2, n3, n4]) rfl ?_
          refine ⟨_, _, by rw [E.out], ?_⟩
          rw [E0'.out]
          obtain ⟨q1, q2, q3⟩ := askArr_ok (x := x) (who := who) (kind := kind) (to_ := to_) (m := q) HZ.out HC.out
          refine ⟨Ext.of_below (Below.chg hEW.below (B := [u, R]) (by repeat (first | with_reducible exact Chg.refl _ _ | with_reducible apply Chg.drew | with_reducible apply Chg.drewl | with_reducible refine Chg.turn (by simp) | with_reducible refine Chg.both ?_ (by simp) | (with_reducible refine Chg.set ?_ (by simp) _) | with_reducible apply Chg.alloc | with_reducible apply Chg.ext)) ?_), Nat.le_refl _, [u], by simp, ?_, own_Gwy_of (HP.out _ (askArr arr x k who kind to_ q) (askRow x who kind to_ q) (by unfold askArr; (repeat (first | with_reducible exact HB.out | with_reducible apply blk_drew | with_reducible refine blk_set ?_ | (with_reducible refine blk_other ?_ (by first | assumption | omega)) | with_reducible refine blk_ext ?_ | with_reducible refine blk_alloc ?_))) q1 q2 q3)⟩
          · intro b hb
            simp only [List.mem_cons, List.not_mem_nil, or_false] at hb
            rcases hb with rfl | rfl <;> omega
          · intro b hb
            obtain rfl : b = u := by simpa using hb
            refine ⟨by omega, Nat.lt_of_lt_of_le hu ?_⟩
            exact (show Chg [b, R] W _ from (by repeat (first | with_reducible exact Chg.refl _ _ | with_reducible apply Chg.drew | with_reducible apply Chg.drewl | with_reducible refine Chg.turn (by simp) | with_reducible refine Chg.both ?_ (by simp) | (with_reducible refine Chg.set ?_ (by simp) _) | with_reducible apply Chg.alloc | with_reducible apply Chg.ext))).size
end Go.Proofs.Ytaepmhoedaogkaa
