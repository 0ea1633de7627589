/- The one world's walkers: the first of a number; one that is here again; what is owned when one element is overwritten. -/
import Derived.Test.YtcfbfpgcfnpdgaaOneCp
import Derived.Test.YtcfbfpgcfnpdgaaWlkF
import Derived.Test.YtcfbfpgcfnpdgaaOneOkS
namespace Go.Proofs.Ytcfbfpgcfnpdgaa
open Go.RowKit
set_option linter.unusedSimpArgs false
set_option linter.unusedVariables false

def idOn (id : Int) (x : Onw) : Bool := x.wk.id == id
def onePlace (xs : List Onw) (id : Int) : Int := idxFrom (idOn id) 0 xs
theorem findOne1_c (x : Onw) (b : Nat) (id : Int) (w : World) (hb : b < w.heap.size) (hc : w.cell? ⟨b, 0, none⟩ = some (.int .i64 id)) :
    Calls Try.prog 71 #[.agg #[.int .i64 x.wk.id, .int .i64 x.wk.at_, .int .i64 x.wk.coins, .int .i64 x.wk.seq, .int .i64 x.wk.last, .bool x.here], .pointer (some ⟨b, 0, none⟩)] w fun e w' => e = .returned (.bool (idOn id x)) ∧ Ext w w' := by
  go_enter Try.func71, Try.ntmps71
  try go_wp2_with (first
      | fail
      | (
        with_reducible refine wp_region_mix (by kernel_rfl) (by decide +kernel) ?_
        repeat (first
          | (refine mix_pure rfl ?_; (first | go_big_quiet_skip | (go_big_quiet_want; go_big_quiet_op; go_big_quiet_on)); refine wpQuiet_nil ?_)
          | (refine mix_skip (by rfl) ?_; (try simp only [Act.put, List.setIfInBounds_toArray, List.set_cons_zero, List.set_cons_succ]))
          | (refine mix_mk rfl (by rfl) (fun K hK => ?_); (first | (go_simp; first | skip)); (show K _ _); refine hK _ _ (show Ext _ _ from (by ((try simp only [ext_drew]); (try simp only [ext_ext]); repeat (first | exact Ext.refl _ | with_reducible apply Ext.add | with_reducible apply Ext.dr | apply Ext.alloc | apply Ext.ext | apply Ext.drew | refine Ext.trans ?_ (by assumption))))) ?_; clear hK K; (try simp only [Act.put, List.setIfInBounds_toArray, List.set_cons_zero, List.set_cons_succ])))
        refine mix_nil ?_)
      | (
        with_reducible refine wp_region_ext (by kernel_rfl) (by kernel_rfl) ?_
        repeat (first | go_big_quiet_skip | (go_big_quiet_want; go_big_quiet_op; first | go_big_quiet_on | (apply Exists.intro; refine ⟨fun _ => ?_, ?_⟩; (fail); (try rw [h1]); (try rw [h2]); (try rw [h3]); (try rw [h4]); (try rw [p1]); (try rw [p2]); (try rw [p3]); (try rw [p4]); (try rw [r1]); (try rw [r2]); (try rw [r3]); (try rw [r4]); (try rw [r5]); (try rw [r6]); (try rw [q3]); (try rw [q4]); (try rw [hp]); (try rw [hq]); go_big_quiet_on)))
        refine wpQuiet_nil ?_
        rintro _ ⟨tq, rfl⟩))
  go_ret
  exact ⟨rfl, (by ((try simp only [ext_drew]); (try simp only [ext_ext]); repeat (first | exact Ext.refl _ | with_reducible apply Ext.add | with_reducible apply Ext.dr | apply Ext.alloc | apply Ext.ext | apply Ext.drew | refine Ext.trans ?_ (by assumption))))⟩
set_option maxHeartbeats 1000000 in
theorem idxOne_c (xs : List Onw) (a : Option Addr) (n c b : Nat) (id : Int) (w : World) (hx : Re w (.sl sOnw) [.slice a n c] (.l (xs.map Onw.dat))) (hn : n ≤ 1048576) (hb : b < w.heap.size) (hc : w.cell? ⟨b, 0, none⟩ = some (.int .i64 id)) :
    Calls Try.prog 70 #[.slice a n c, .func (.func 71) #[] #[.pointer (some ⟨b, 0, none⟩)]] w fun e w' => e = .returned (.int .i64 (onePlace xs id)) ∧ Ext w w' := by
  have HX := hid hx
  clear hx
  go_enter Try.func70, Try.ntmps70
  go_wp2
  go_loopw [8] (fun i wr => ∃ k : Nat, k ≤ n ∧ i = .int .i64 k ∧ (∀ y ∈ xs.take k, idOn id y = false) ∧ Ext w wr) (fun i _ => n - (intOf i).toNat)
  case atStart => exact ⟨0, Nat.zero_le _, rfl, by simp, Ext.refl _⟩
  case round =>
    obtain ⟨k, hk, rfl, hal, t, rfl⟩ := hrel
    have HA := hid hal
    clear hal
    by_cases hlt : k < n
    · obtain ⟨x, b1, o1, hxk, rfl, hb1, f0, f1, f2, f3, f4, f5⟩ := at_Onw HX.out hlt
      have HK := hid hxk
      clear hxk
      cases hp : idOn id x with
      | true =>
        have E := hid (show onePlace xs id = (k : Int) by rw [onePlace, idxFrom_hit HK.out HA.out hp]; simp)
        try go_wp2_with (first
            | (go_at_call 71; (with_reducible refine (findOne1_c x b id _ (by simp [ext_size]; omega) (by rw [ext_cell' _ _ _ _ hb]; exact hc)).mono ?_); rintro e w' ⟨rfl, t, rfl⟩)
            | (
              with_reducible refine wp_region_mix (by kernel_rfl) (by decide +kernel) ?_
              repeat (first
                | (refine mix_pure rfl ?_; (first | go_big_quiet_skip | (go_big_quiet_want; go_big_quiet_op; go_big_quiet_on)); refine wpQuiet_nil ?_)
                | (refine mix_skip (by rfl) ?_; (try simp only [Act.put, List.setIfInBounds_toArray, List.set_cons_zero, List.set_cons_succ]))
                | (refine mix_mk rfl (by rfl) (fun K hK => ?_); (first | (go_simp; first | (go_at_call 71; (with_reducible refine (findOne1_c x b id _ (by simp [ext_size]; omega) (by rw [ext_cell' _ _ _ _ hb]; exact hc)).mono ?_); rintro e w' ⟨rfl, t, rfl⟩) | skip)); (show K _ _); refine hK _ _ (show Ext _ _ from (by ((try simp only [ext_drew]); (try simp only [ext_ext]); repeat (first | exact Ext.refl _ | with_reducible apply Ext.add | with_reducible apply Ext.dr | apply Ext.alloc | apply Ext.ext | apply Ext.drew | refine Ext.trans ?_ (by assumption))))) ?_; clear hK K; (try simp only [Act.put, List.setIfInBounds_toArray, List.set_cons_zero, List.set_cons_succ])))
              refine mix_nil ?_)
            | (
              with_reducible refine wp_region_ext (by kernel_rfl) (by kernel_rfl) ?_
              repeat (first | go_big_quiet_skip | (go_big_quiet_want; go_big_quiet_op; first | go_big_quiet_on | (apply Exists.intro; refine ⟨fun _ => ?_, ?_⟩; (fail); (try rw [h1]); (try rw [h2]); (try rw [h3]); (try rw [h4]); (try rw [p1]); (try rw [p2]); (try rw [p3]); (try rw [p4]); (try rw [r1]); (try rw [r2]); (try rw [r3]); (try rw [r4]); (try rw [r5]); (try rw [r6]); (try rw [q3]); (try rw [q4]); (try rw [hp]); (try rw [hq]); go_big_quiet_on)))
              refine wpQuiet_nil ?_
              rintro _ ⟨tq, rfl⟩))
        go_ret
        exact ⟨ret_int E.out.symm, (by ((try simp only [ext_drew]); (try simp only [ext_ext]); repeat (first | exact Ext.refl _ | with_reducible apply Ext.add | with_reducible apply Ext.dr | apply Ext.alloc | apply Ext.ext | apply Ext.drew | refine Ext.trans ?_ (by assumption))))⟩
      | false =>
        have HB := hid (take_step HA.out HK.out hp)
        try go_wp2_with (first
            | (go_at_call 71; (with_reducible refine (findOne1_c x b id _ (by simp [ext_size]; omega) (by rw [ext_cell' _ _ _ _ hb]; exact hc)).mono ?_); rintro e w' ⟨rfl, t, rfl⟩)
            | (
              with_reducible refine wp_region_mix (by kernel_rfl) (by decide +kernel) ?_
              repeat (first
                | (refine mix_pure rfl ?_; (first | go_big_quiet_skip | (go_big_quiet_want; go_big_quiet_op; go_big_quiet_on)); refine wpQuiet_nil ?_)
                | (refine mix_skip (by rfl) ?_; (try simp only [Act.put, List.setIfInBounds_toArray, List.set_cons_zero, List.set_cons_succ]))
                | (refine mix_mk rfl (by rfl) (fun K hK => ?_); (first | (go_simp; first | (go_at_call 71; (with_reducible refine (findOne1_c x b id _ (by simp [ext_size]; omega) (by rw [ext_cell' _ _ _ _ hb]; exact hc)).mono ?_); rintro e w' ⟨rfl, t, rfl⟩) | skip)); (show K _ _); refine hK _ _ (show Ext _ _ from (by ((try simp only [ext_drew]); (try simp only [ext_ext]); repeat (first | exact Ext.refl _ | with_reducible apply Ext.add | with_reducible apply Ext.dr | apply Ext.alloc | apply Ext.ext | apply Ext.drew | refine Ext.trans ?_ (by assumption))))) ?_; clear hK K; (try simp only [Act.put, List.setIfInBounds_toArray, List.set_cons_zero, List.set_cons_succ])))
              refine mix_nil ?_)
            | (
              with_reducible refine wp_region_ext (by kernel_rfl) (by kernel_rfl) ?_
              repeat (first | go_big_quiet_skip | (go_big_quiet_want; go_big_quiet_op; first | go_big_quiet_on | (apply Exists.intro; refine ⟨fun _ => ?_, ?_⟩; (fail); (try rw [h1]); (try rw [h2]); (try rw [h3]); (try rw [h4]); (try rw [p1]); (try rw [p2]); (try rw [p3]); (try rw [p4]); (try rw [r1]); (try rw [r2]); (try rw [r3]); (try rw [r4]); (try rw [r5]); (try rw [r6]); (try rw [q3]); (try rw [q4]); (try rw [hp]); (try rw [hq]); go_big_quiet_on)))
              refine wpQuiet_nil ?_
              rintro _ ⟨tq, rfl⟩))
        go_roundw
        case rel => exact ⟨k + 1, by omega, by go_num, HB.out, (by ((try simp only [ext_drew]); (try simp only [ext_ext]); repeat (first | exact Ext.refl _ | with_reducible apply Ext.add | with_reducible apply Ext.dr | apply Ext.alloc | apply Ext.ext | apply Ext.drew | refine Ext.trans ?_ (by assumption))))⟩
        case measure => simp [intOf]; omega
    · have E := hid (show onePlace xs id = -1 from idxFrom_none (take_end HA.out (by rw [← HX.out.len]; omega)))
      go_wp2
      go_ret
      exact ⟨ret_int E.out.symm, (by ((try simp only [ext_drew]); (try simp only [ext_ext]); repeat (first | exact Ext.refl _ | with_reducible apply Ext.add | with_reducible apply Ext.dr | apply Ext.alloc | apply Ext.ext | apply Ext.drew | refine Ext.trans ?_ (by assumption))))⟩
theorem findOne_c (o : One) (h : OneH) (id : Int) (w : World) (hx : ReO w o h) (hn : o.wk.length ≤ 1048576) :
    Calls Try.prog 45 #[.agg #[.int .i64 o.map.c, .int .i64 o.map.w, .slice h.a1 o.wk.length h.c1, .slice h.a2 o.ground.length h.c2, .slice h.a3 o.air.length h.c3], .int .i64 id] w fun e w' => e = .returned (.int .i64 (onePlace o.wk id)) ∧ Ext w w' := by
  have HX := hid hx.r1
  clear hx
  go_enter Try.func45, Try.ntmps45
  try go_wp2_with (first
      | (go_at_call 70; (with_reducible refine (idxOne_c o.wk _ _ _ _ id _ (HX.out.of (by ((try simp only [ext_drew]); (try simp only [ext_ext]); repeat (first | exact Ext.refl _ | with_reducible apply Ext.add | with_reducible apply Ext.dr | apply Ext.alloc | apply Ext.ext | apply Ext.drew | refine Ext.trans ?_ (by assumption))))) hn (by (try simp [go_sem]) <;> (try simp [Xt.add]) <;> omega) (by simp [go_sem])).mono ?_); rintro e w' ⟨rfl, t, rfl⟩)
      | (
        with_reducible refine wp_region_mix (by kernel_rfl) (by decide +kernel) ?_
        repeat (first
          | (refine mix_pure rfl ?_; (first | go_big_quiet_skip | (go_big_quiet_want; go_big_quiet_op; go_big_quiet_on)); refine wpQuiet_nil ?_)
          | (refine mix_skip (by rfl) ?_; (try simp only [Act.put, List.setIfInBounds_toArray, List.set_cons_zero, List.set_cons_succ]))
          | (refine mix_mk rfl (by rfl) (fun K hK => ?_); (first | (go_simp; first | (go_at_call 70; (with_reducible refine (idxOne_c o.wk _ _ _ _ id _ (HX.out.of (by ((try simp only [ext_drew]); (try simp only [ext_ext]); repeat (first | exact Ext.refl _ | with_reducible apply Ext.add | with_reducible apply Ext.dr | apply Ext.alloc | apply Ext.ext | apply Ext.drew | refine Ext.trans ?_ (by assumption))))) hn (by (try simp [go_sem]) <;> (try simp [Xt.add]) <;> omega) (by simp [go_sem])).mono ?_); rintro e w' ⟨rfl, t, rfl⟩) | skip)); (show K _ _); refine hK _ _ (show Ext _ _ from (by ((try simp only [ext_drew]); (try simp only [ext_ext]); repeat (first | exact Ext.refl _ | with_reducible apply Ext.add | with_reducible apply Ext.dr | apply Ext.alloc | apply Ext.ext | apply Ext.drew | refine Ext.trans ?_ (by assumption))))) ?_; clear hK K; (try simp only [Act.put, List.setIfInBounds_toArray, List.set_cons_zero, List.set_cons_succ])))
        refine mix_nil ?_)
      | (
        with_reducible refine wp_region_ext (by kernel_rfl) (by kernel_rfl) ?_
        repeat (first | go_big_quiet_skip | (go_big_quiet_want; go_big_quiet_op; first | go_big_quiet_on | (apply Exists.intro; refine ⟨fun _ => ?_, ?_⟩; (fail); (try rw [h1]); (try rw [h2]); (try rw [h3]); (try rw [h4]); (try rw [p1]); (try rw [p2]); (try rw [p3]); (try rw [p4]); (try rw [r1]); (try rw [r2]); (try rw [r3]); (try rw [r4]); (try rw [r5]); (try rw [r6]); (try rw [q3]); (try rw [q4]); (try rw [hp]); (try rw [hq]); go_big_quiet_on)))
        refine wpQuiet_nil ?_
        rintro _ ⟨tq, rfl⟩))
  go_ret
  exact ⟨rfl, (by ((try simp only [ext_drew]); (try simp only [ext_ext]); repeat (first | exact Ext.refl _ | with_reducible apply Ext.add | with_reducible apply Ext.dr | apply Ext.alloc | apply Ext.ext | apply Ext.drew | refine Ext.trans ?_ (by assumption))))⟩

theorem own_at_Onw {w : World} {a : Option Addr} {n c : Nat} {xs : List Onw} {B : List Nat} (h : Own w (.sl sOnw) [.slice a n c] (.l (xs.map Onw.dat)) B) {j : Nat} (hj : j < n) :
    ∃ (b : Nat) (arr : Array Value) (T : TypeId) (x : Onw), a = some ⟨b, 0, none⟩ ∧ B = [b] ∧ n = xs.length ∧ xs[j]? = some x ∧ w.heap[b]? = some (.cells arr T (0, 0)) ∧ j * 6 + 6 ≤ arr.size ∧ (∀ i v, x.cells[i]? = some v → arr[j * 6 + i]? = some v) ∧
      ∀ (w' : World) (arr' : Array Value) (y : Onw), w'.heap[b]? = some (.cells arr' T (0, 0)) → arr'.size = arr.size → (∀ i, ¬ (j * 6 ≤ i ∧ i < j * 6 + 6) → arr'[i]? = arr[i]?) → (∀ i v, y.cells[i]? = some v → arr'[j * 6 + i]? = some v) →
        Own w' (.sl sOnw) [.slice (some ⟨b, 0, none⟩) n c] (.l ((xs.set j y).map Onw.dat)) [b] := by
  obtain ⟨b, arr, T, x, h1, h2, h3, h4, h5, h6, h7, h8, h9⟩ := own_at (cells := Onw.cells) (dat := Onw.dat) (sch := sOnw) (k := 6) rfl (by decide) (by decide) (fun _ => rfl) (fun _ _ _ _ h => rd_Onw h) (fun _ _ h => Onw.dat_inj h) (fun w x => own_Onw_mk w x) h hj
  exact ⟨b, arr, T, x, h1, h2, h3, h4, h5, h6, fun i v hv => by rw [← cell_blk h5]; exact h7 i v hv, h9⟩
def hereOn (x : Onw) : Onw := ⟨x.wk, true⟩
/-- One walker is here from now on: its last cell is overwritten. -/
theorem own_here {w : World} {a : Option Addr} {n c : Nat} {xs : List Onw} {B : List Nat} (h : Own w (.sl sOnw) [.slice a n c] (.l (xs.map Onw.dat)) B) {j : Nat} (hj : j < n) :
    ∃ (b : Nat) (arr : Array Value) (T : TypeId) (x : Onw), a = some ⟨b, 0, none⟩ ∧ B = [b] ∧ n = xs.length ∧ xs[j]? = some x ∧ w.heap[b]? = some (.cells arr T (0, 0)) ∧ w.cell? ⟨b, j * 6, none⟩ = some (.int .i64 x.wk.id) ∧ w.cell? ⟨b, j * 6 + 5, none⟩ = some (.bool x.here) ∧ w.frozen? ⟨b, j * 6 + 5, none⟩ = false ∧
      ∀ (w' : World), w'.heap[b]? = some (.cells (arr.setIfInBounds (j * 6 + 5) (.bool true)) T (0, 0)) → Own w' (.sl sOnw) [.slice (some ⟨b, 0, none⟩) n c] (.l ((xs.set j (hereOn x)).map Onw.dat)) [b] := by
  obtain ⟨b, arr, T, x, h1, h2, h3, h4, h5, h6, h7, h8⟩ := own_at_Onw h hj
  refine ⟨b, arr, T, x, h1, h2, h3, h4, h5, (cell_blk h5 _).trans (h7 0 _ rfl), (cell_blk h5 _).trans (h7 5 _ rfl), frozen_blk h5 _, fun w' hb => h8 w' _ (hereOn x) hb (by simp) (fun i hi => ?_) (fun i v hv => ?_)⟩
  · rw [arr_set (by omega), if_neg (by omega)]
  · match i, hv with
    | 0, hv => rw [arr_set (by omega), if_neg (by omega)]; exact h7 0 v hv
    | 1, hv => rw [arr_set (by omega), if_neg (by omega)]; exact h7 1 v hv
    | 2, hv => rw [arr_set (by omega), if_neg (by omega)]; exact h7 2 v hv
    | 3, hv => rw [arr_set (by omega), if_neg (by omega)]; exact h7 3 v hv
    | 4, hv => rw [arr_set (by omega), if_neg (by omega)]; exact h7 4 v hv
    | 5, hv => rw [arr_set (by omega), if_pos (by omega)]; exact hv
/-- The three slices of a world that is owned. -/
theorem own_one_split {w : World} {o : One} {h : OneH} {B : List Nat} (ho : Own w sOne (oneCells o h) (oneDat o) B) :
    ∃ B2 B3 B4, B = B2 ++ (B3 ++ B4) ∧ Own w (.sl sOnw) [.slice h.a1 o.wk.length h.c1] (.l (o.wk.map Onw.dat)) B2 ∧ Own w (.sl .int) [.slice h.a2 o.ground.length h.c2] (.l (o.ground.map Dat.i)) B3 ∧ Own w (.sl (.sl .int)) [.slice h.a3 o.air.length h.c3] (.l (o.air.map (ldat Dat.i))) B4 := by
  have L := own_st (show Own w (.st [sMp, .sl sOnw, .sl .int, .sl (.sl .int)]) [.int .i64 o.map.c, .int .i64 o.map.w, .slice h.a1 o.wk.length h.c1, .slice h.a2 o.ground.length h.c2, .slice h.a3 o.air.length h.c3] (.s [o.map.dat, .l (o.wk.map Onw.dat), .l (o.ground.map Dat.i), .l (o.air.map (ldat Dat.i))]) B from ho)
  replace L := ownL_mp L
  obtain ⟨B2, R2, rfl, O2, L⟩ := ownL_sl L
  obtain ⟨B3, R3, rfl, O3, L⟩ := ownL_sl L
  obtain ⟨B4, R4, rfl, O4, L⟩ := ownL_sl L
  obtain rfl : R4 = [] := by unfold OwnL at L; exact L.2.2
  exact ⟨B2, B3, B4, by simp, O2, O3, O4⟩
theorem own_one_join {w : World} {m : Mp} {v1 v2 v3 : Value} {wk : List Onw} {gr : List Int} {air : List (List Int)} {B2 B3 B4 : List Nat} (O2 : Own w (.sl sOnw) [v1] (.l (wk.map Onw.dat)) B2) (O3 : Own w (.sl .int) [v2] (.l (gr.map Dat.i)) B3) (O4 : Own w (.sl (.sl .int)) [v3] (.l (air.map (ldat Dat.i))) B4) :
    Own w sOne [.int .i64 m.c, .int .i64 m.w, v1, v2, v3] (oneDat ⟨m, wk, gr, air⟩) (B2 ++ (B3 ++ B4)) := by
  have := own_st_mk (ownL_mp_mk (m := m) (ownL_sl_mk O2 (ownL_sl_mk O3 (ownL_sl_mk O4 ownL_nil))))
  rw [List.append_nil] at this
  exact this
end Go.Proofs.Ytcfbfpgcfnpdgaa
