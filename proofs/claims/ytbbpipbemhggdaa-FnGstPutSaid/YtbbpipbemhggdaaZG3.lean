/- Packed texts: GstL, GstP, Dy, Dz, Gpl -/
import Derived.Test.YtbbpipbemhggdaaZG2
namespace Go.Proofs.Ytbbpipbemhggdaa
open Go.RowKit
set_option linter.unusedSimpArgs false
set_option linter.unusedVariables false

def gstLess (a b : Gst) : Bool := if a.src = b.src then decide (a.wk.id < b.wk.id) else decide (a.src < b.src)
theorem ahead_c (a b : Gst) (w : World) : Calls Try.prog 83 #[.agg #[.int .i64 a.src, .int .i64 a.count, .int .i64 a.wk.id, .int .i64 a.wk.at_, .int .i64 a.wk.coins, .int .i64 a.wk.seq, .int .i64 a.wk.last], .agg #[.int .i64 b.src, .int .i64 b.count, .int .i64 b.wk.id, .int .i64 b.wk.at_, .int .i64 b.wk.coins, .int .i64 b.wk.seq, .int .i64 b.wk.last]] w fun e w' => e = .returned (.bool (gstLess a b)) ∧ Ext w w' := by
  rcases Int.lt_trichotomy a.src b.src with h | h | h
  · have E := hid (show gstLess a b = true by unfold gstLess; rw [if_neg (by omega)]; simpa using h)
    go_enter Try.func83, Try.ntmps83
    try go_wp2_with (first
        | fail
        | (
          with_reducible refine wp_region_mix (by kernel_rfl) (by decide +kernel) ?_
          repeat (first
            | (refine mix_pure rfl ?_; (first | go_big_quiet_skip | (go_big_quiet_want; go_big_quiet_op; go_big_quiet_on)); refine wpQuiet_nil ?_)
            | (refine mix_skip (by rfl) ?_; (try simp only [Act.put, List.setIfInBounds_toArray, List.set_cons_zero, List.set_cons_succ]))
            | (refine mix_mk rfl (by rfl) (fun K hK => ?_); (first | (go_simp; first | skip)); (show K _ _); refine hK _ _ (show Ext _ _ from zq0) ?_; clear hK K; (try simp only [Act.put, List.setIfInBounds_toArray, List.set_cons_zero, List.set_cons_succ])))
          refine mix_nil ?_)
        | (
          with_reducible refine wp_region_ext (by kernel_rfl) (by kernel_rfl) ?_
          repeat (first | go_big_quiet_skip | (go_big_quiet_want; go_big_quiet_op; first | go_big_quiet_on | (apply Exists.intro; refine ⟨fun _ => ?_, ?_⟩; (fail); (try rw [h1]); (try rw [h2]); (try rw [h3]); (try rw [h4]); (try rw [p1]); (try rw [p2]); (try rw [p3]); (try rw [p4]); (try rw [r1]); (try rw [r2]); (try rw [r3]); (try rw [r4]); (try rw [r5]); (try rw [r6]); (try rw [q3]); (try rw [q4]); (try rw [hp]); (try rw [hq]); go_big_quiet_on)))
          refine wpQuiet_nil ?_
          rintro _ ⟨tq, rfl⟩))
    go_ret
    exact ⟨ret_bool (by rw [E.out]), zq0⟩
  · have E := hid (show gstLess a b = decide (a.wk.id < b.wk.id) by unfold gstLess; rw [if_pos h])
    have h1 : ¬ a.src < b.src := by omega
    have h2 := beq_t h
    clear h
    go_enter Try.func83, Try.ntmps83
    try go_wp2_with (first
        | fail
        | (
          with_reducible refine wp_region_mix (by kernel_rfl) (by decide +kernel) ?_
          repeat (first
            | (refine mix_pure rfl ?_; (first | go_big_quiet_skip | (go_big_quiet_want; go_big_quiet_op; go_big_quiet_on)); refine wpQuiet_nil ?_)
            | (refine mix_skip (by rfl) ?_; (try simp only [Act.put, List.setIfInBounds_toArray, List.set_cons_zero, List.set_cons_succ]))
            | (refine mix_mk rfl (by rfl) (fun K hK => ?_); (first | (go_simp; first | skip)); (show K _ _); refine hK _ _ (show Ext _ _ from zq0) ?_; clear hK K; (try simp only [Act.put, List.setIfInBounds_toArray, List.set_cons_zero, List.set_cons_succ])))
          refine mix_nil ?_)
        | (
          with_reducible refine wp_region_ext (by kernel_rfl) (by kernel_rfl) ?_
          repeat (first | go_big_quiet_skip | (go_big_quiet_want; go_big_quiet_op; first | go_big_quiet_on | (apply Exists.intro; refine ⟨fun _ => ?_, ?_⟩; (fail); (try rw [h1]); (try rw [h2]); (try rw [h3]); (try rw [h4]); (try rw [p1]); (try rw [p2]); (try rw [p3]); (try rw [p4]); (try rw [r1]); (try rw [r2]); (try rw [r3]); (try rw [r4]); (try rw [r5]); (try rw [r6]); (try rw [q3]); (try rw [q4]); (try rw [hp]); (try rw [hq]); go_big_quiet_on)))
          refine wpQuiet_nil ?_
          rintro _ ⟨tq, rfl⟩))
    go_ret
    exact ⟨ret_bool (by rw [E.out]), zq0⟩
  · have E := hid (show gstLess a b = false by unfold gstLess; rw [if_neg (by omega)]; simp; omega)
    have h1 : ¬ a.src < b.src := by omega
    have h2 := beq_f (show a.src ≠ b.src by omega)
    go_enter Try.func83, Try.ntmps83
    try go_wp2_with (first
        | fail
        | (
          with_reducible refine wp_region_mix (by kernel_rfl) (by decide +kernel) ?_
          repeat (first
            | (refine mix_pure rfl ?_; (first | go_big_quiet_skip | (go_big_quiet_want; go_big_quiet_op; go_big_quiet_on)); refine wpQuiet_nil ?_)
            | (refine mix_skip (by rfl) ?_; (try simp only [Act.put, List.setIfInBounds_toArray, List.set_cons_zero, List.set_cons_succ]))
            | (refine mix_mk rfl (by rfl) (fun K hK => ?_); (first | (go_simp; first | skip)); (show K _ _); refine hK _ _ (show Ext _ _ from zq0) ?_; clear hK K; (try simp only [Act.put, List.setIfInBounds_toArray, List.set_cons_zero, List.set_cons_succ])))
          refine mix_nil ?_)
        | (
          with_reducible refine wp_region_ext (by kernel_rfl) (by kernel_rfl) ?_
          repeat (first | go_big_quiet_skip | (go_big_quiet_want; go_big_quiet_op; first | go_big_quiet_on | (apply Exists.intro; refine ⟨fun _ => ?_, ?_⟩; (fail); (try rw [h1]); (try rw [h2]); (try rw [h3]); (try rw [h4]); (try rw [p1]); (try rw [p2]); (try rw [p3]); (try rw [p4]); (try rw [r1]); (try rw [r2]); (try rw [r3]); (try rw [r4]); (try rw [r5]); (try rw [r6]); (try rw [q3]); (try rw [q4]); (try rw [hp]); (try rw [hq]); go_big_quiet_on)))
          refine wpQuiet_nil ?_
          rintro _ ⟨tq, rfl⟩))
    go_ret
    exact ⟨ret_bool (by rw [E.out]), zq0⟩
theorem less_c (a b : Gst) (w : World) : Calls Try.prog 82 #[.agg #[.int .i64 a.src, .int .i64 a.count, .int .i64 a.wk.id, .int .i64 a.wk.at_, .int .i64 a.wk.coins, .int .i64 a.wk.seq, .int .i64 a.wk.last], .agg #[.int .i64 b.src, .int .i64 b.count, .int .i64 b.wk.id, .int .i64 b.wk.at_, .int .i64 b.wk.coins, .int .i64 b.wk.seq, .int .i64 b.wk.last]] w fun e w' => e = .returned (.bool (gstLess a b)) ∧ Ext w w' := by
  by_cases h : a.src = b.src
  · have E := hid (show gstLess a b = decide (a.wk.id < b.wk.id) by unfold gstLess; rw [if_pos h])
    have h2 := bne_f h
    clear h
    go_enter Try.func82, Try.ntmps82
    try go_wp2_with (first
        | fail
        | (
          with_reducible refine wp_region_mix (by kernel_rfl) (by decide +kernel) ?_
          repeat (first
            | (refine mix_pure rfl ?_; (first | go_big_quiet_skip | (go_big_quiet_want; go_big_quiet_op; go_big_quiet_on)); refine wpQuiet_nil ?_)
            | (refine mix_skip (by rfl) ?_; (try simp only [Act.put, List.setIfInBounds_toArray, List.set_cons_zero, List.set_cons_succ]))
            | (refine mix_mk rfl (by rfl) (fun K hK => ?_); (first | (go_simp; first | skip)); (show K _ _); refine hK _ _ (show Ext _ _ from zq0) ?_; clear hK K; (try simp only [Act.put, List.setIfInBounds_toArray, List.set_cons_zero, List.set_cons_succ])))
          refine mix_nil ?_)
        | (
          with_reducible refine wp_region_ext (by kernel_rfl) (by kernel_rfl) ?_
          repeat (first | go_big_quiet_skip | (go_big_quiet_want; go_big_quiet_op; first | go_big_quiet_on | (apply Exists.intro; refine ⟨fun _ => ?_, ?_⟩; (fail); (try rw [h1]); (try rw [h2]); (try rw [h3]); (try rw [h4]); (try rw [p1]); (try rw [p2]); (try rw [p3]); (try rw [p4]); (try rw [r1]); (try rw [r2]); (try rw [r3]); (try rw [r4]); (try rw [r5]); (try rw [r6]); (try rw [q3]); (try rw [q4]); (try rw [hp]); (try rw [hq]); go_big_quiet_on)))
          refine wpQuiet_nil ?_
          rintro _ ⟨tq, rfl⟩))
    go_ret
    exact ⟨ret_bool (by rw [E.out]), zq0⟩
  · have E := hid (show gstLess a b = decide (a.src < b.src) by unfold gstLess; rw [if_neg h])
    have h2 := bne_t h
    clear h
    go_enter Try.func82, Try.ntmps82
    try go_wp2_with (first
        | fail
        | (
          with_reducible refine wp_region_mix (by kernel_rfl) (by decide +kernel) ?_
          repeat (first
            | (refine mix_pure rfl ?_; (first | go_big_quiet_skip | (go_big_quiet_want; go_big_quiet_op; go_big_quiet_on)); refine wpQuiet_nil ?_)
            | (refine mix_skip (by rfl) ?_; (try simp only [Act.put, List.setIfInBounds_toArray, List.set_cons_zero, List.set_cons_succ]))
            | (refine mix_mk rfl (by rfl) (fun K hK => ?_); (first | (go_simp; first | skip)); (show K _ _); refine hK _ _ (show Ext _ _ from zq0) ?_; clear hK K; (try simp only [Act.put, List.setIfInBounds_toArray, List.set_cons_zero, List.set_cons_succ])))
          refine mix_nil ?_)
        | (
          with_reducible refine wp_region_ext (by kernel_rfl) (by kernel_rfl) ?_
          repeat (first | go_big_quiet_skip | (go_big_quiet_want; go_big_quiet_op; first | go_big_quiet_on | (apply Exists.intro; refine ⟨fun _ => ?_, ?_⟩; (fail); (try rw [h1]); (try rw [h2]); (try rw [h3]); (try rw [h4]); (try rw [p1]); (try rw [p2]); (try rw [p3]); (try rw [p4]); (try rw [r1]); (try rw [r2]); (try rw [r3]); (try rw [r4]); (try rw [r5]); (try rw [r6]); (try rw [q3]); (try rw [q4]); (try rw [hp]); (try rw [hq]); go_big_quiet_on)))
          refine wpQuiet_nil ?_
          rintro _ ⟨tq, rfl⟩))
    go_ret
    exact ⟨ret_bool (by rw [E.out]), zq0⟩

/-- The element stands behind the one ahead of it. -/
def relAt {α : Type} (r : α → α → Bool) (xs : List α) (i : Nat) (x : α) : Bool := (i == 0) || ((xs[i - 1]?).map (fun y => r y x)).getD false
theorem relAt_nul {α : Type} {r : α → α → Bool} {xs : List α} {k : Nat} (e : k = 0) (x : α) : relAt r xs k x = true := by subst e; rfl
theorem relAt_pos {α : Type} {r : α → α → Bool} {xs : List α} {k j : Nat} {y : α} (e : k = j + 1) (h : xs[j]? = some y) (x : α) : relAt r xs k x = r y x := by subst e; simp [relAt, h]
def gstAt (m : Mp) (xs : List Gst) (i : Nat) (x : Gst) : Bool := gstOk m x && relAt gstLess xs i x
def gstAll (m : Mp) (xs : List Gst) : Bool := allI (gstAt m xs) 0 xs

set_option maxRecDepth 100000 in
set_option maxHeartbeats 2000000 in
theorem iGstListOk_c (m : Mp) (xs : List Gst) (a : Option Addr) (n c : Nat) (w : World) (hx : Re w (.sl sGst) [.slice a n c] (.l (xs.map Gst.dat))) (hn : n ≤ 1048576) :
    Calls Try.prog 53 #[.agg #[.int .i64 m.c, .int .i64 m.w], .slice a n c] w fun e w' => e = .returned (.bool (gstAll m xs && (plcOk m && decide ((n : Int) ≤ 20)))) ∧ Ext w w' := by
  have HX := hid hx
  clear hx
  go_enter Try.func53, Try.ntmps53
  try go_wp2_with (first
      | fail
      | (
        with_reducible refine wp_region_mix (by kernel_rfl) (by decide +kernel) ?_
        repeat (first
          | (refine mix_pure rfl ?_; (first | go_big_quiet_skip | (go_big_quiet_want; go_big_quiet_op; go_big_quiet_on)); refine wpQuiet_nil ?_)
          | (refine mix_skip (by rfl) ?_; (try simp only [Act.put, List.setIfInBounds_toArray, List.set_cons_zero, List.set_cons_succ]))
          | (refine mix_mk rfl (by rfl) (fun K hK => ?_); (first | (go_simp; first | skip)); (show K _ _); refine hK _ _ (show Ext _ _ from zq0) ?_; clear hK K; (try simp only [Act.put, List.setIfInBounds_toArray, List.set_cons_zero, List.set_cons_succ])))
        refine mix_nil ?_)
      | (
        with_reducible refine wp_region_ext (by kernel_rfl) (by kernel_rfl) ?_
        repeat (first | go_big_quiet_skip | (go_big_quiet_want; go_big_quiet_op; first | go_big_quiet_on | (apply Exists.intro; refine ⟨fun _ => ?_, ?_⟩; (fail); (try rw [h1]); (try rw [h2]); (try rw [h3]); (try rw [h4]); (try rw [p1]); (try rw [p2]); (try rw [p3]); (try rw [p4]); (try rw [r1]); (try rw [r2]); (try rw [r3]); (try rw [r4]); (try rw [r5]); (try rw [r6]); (try rw [q3]); (try rw [q4]); (try rw [hp]); (try rw [hq]); go_big_quiet_on)))
        refine wpQuiet_nil ?_
        rintro _ ⟨tq, rfl⟩))
  go_loopw [9] (fun i wr => ∃ k : Nat, k ≤ n ∧ i = .int .i64 k ∧ allI (gstAt m xs) 0 (xs.take k) = true ∧ Ext (w.alloc (Obj.cells #[.int .i64 m.c, .int .i64 m.w] 24)) wr) (fun i _ => n - (intOf i).toNat)
  case atStart => exact ⟨0, Nat.zero_le _, rfl, rfl, zq0⟩
  case round =>
    obtain ⟨k, hk, rfl, hal, t', rfl⟩ := hrel
    have HA := hid hal
    clear hal
    by_cases hlt : k < n
    · obtain ⟨x, b, o, hxk, rfl, hb, f0, f1, f2, f3, f4, f5, f6⟩ := at_Gst HX.out hlt
      have HK := hid hxk
      clear hxk
      have hb1 : b ≤ w.heap.size := Nat.le_of_lt hb
      cases h1 : gstOk m x with
      | false =>
        have E := hid (show gstAll m xs = false from allI_fail (p := gstAt m xs) HK.out (by simp [gstAt, h1]))
        try go_wp2_with (first
            | (go_at_call 80; refine (iGstOk_c _ _ _).mono ?_; rintro e w' ⟨rfl, t, rfl⟩) | (go_at_call 83; refine (ahead_c _ _ _).mono ?_; rintro e w' ⟨rfl, t, rfl⟩)
            | (
              with_reducible refine wp_region_mix (by kernel_rfl) (by decide +kernel) ?_
              repeat (first
                | (refine mix_pure rfl ?_; (first | go_big_quiet_skip | (go_big_quiet_want; go_big_quiet_op; go_big_quiet_on)); refine wpQuiet_nil ?_)
                | (refine mix_skip (by rfl) ?_; (try simp only [Act.put, List.setIfInBounds_toArray, List.set_cons_zero, List.set_cons_succ]))
                | (refine mix_mk rfl (by rfl) (fun K hK => ?_); (first | (go_simp; first | (go_at_call 80; refine (iGstOk_c _ _ _).mono ?_; rintro e w' ⟨rfl, t, rfl⟩) | (go_at_call 83; refine (ahead_c _ _ _).mono ?_; rintro e w' ⟨rfl, t, rfl⟩) | skip)); (show K _ _); refine hK _ _ (show Ext _ _ from zq0) ?_; clear hK K; (try simp only [Act.put, List.setIfInBounds_toArray, List.set_cons_zero, List.set_cons_succ])))
              refine mix_nil ?_)
            | (
              with_reducible refine wp_region_ext (by kernel_rfl) (by kernel_rfl) ?_
              repeat (first | go_big_quiet_skip | (go_big_quiet_want; go_big_quiet_op; first | go_big_quiet_on | (apply Exists.intro; refine ⟨fun _ => ?_, ?_⟩; ((first | (go_at_call 80; first | exact quiet_call (iGstOk_c _ _ _) | exact quiet_call2 (iGstOk_c _ _ _)) | (go_at_call 83; first | exact quiet_call (ahead_c _ _ _) | exact quiet_call2 (ahead_c _ _ _)))); (try rw [h1]); (try rw [h2]); (try rw [h3]); (try rw [h4]); (try rw [p1]); (try rw [p2]); (try rw [p3]); (try rw [p4]); (try rw [r1]); (try rw [r2]); (try rw [r3]); (try rw [r4]); (try rw [r5]); (try rw [r6]); (try rw [q3]); (try rw [q4]); (try rw [hp]); (try rw [hq]); go_big_quiet_on)))
              refine wpQuiet_nil ?_
              rintro _ ⟨tq, rfl⟩))
        go_ret
        exact ⟨ret_bool (by simp only [E.out, Bool.and_false, Bool.false_and]), zq0⟩
      | true =>
        rcases Nat.eq_zero_or_pos k with hk0 | hk0
        · have HZ := hid hk0
          have hz : ¬ (0 : Int) < (k : Int) := by omega
          have hz1 : ¬ 0 < k := by omega
          clear hk0
          have HB := hid (allI_step (p := gstAt m xs) HK.out HA.out (by simp [gstAt, h1, relAt_nul HZ.out]))
          try go_wp2_with (first
              | (go_at_call 80; refine (iGstOk_c _ _ _).mono ?_; rintro e w' ⟨rfl, t, rfl⟩) | (go_at_call 83; refine (ahead_c _ _ _).mono ?_; rintro e w' ⟨rfl, t, rfl⟩)
              | (
                with_reducible refine wp_region_mix (by kernel_rfl) (by decide +kernel) ?_
                repeat (first
                  | (refine mix_pure rfl ?_; (first | go_big_quiet_skip | (go_big_quiet_want; go_big_quiet_op; go_big_quiet_on)); refine wpQuiet_nil ?_)
                  | (refine mix_skip (by rfl) ?_; (try simp only [Act.put, List.setIfInBounds_toArray, List.set_cons_zero, List.set_cons_succ]))
                  | (refine mix_mk rfl (by rfl) (fun K hK => ?_); (first | (go_simp; first | (go_at_call 80; refine (iGstOk_c _ _ _).mono ?_; rintro e w' ⟨rfl, t, rfl⟩) | (go_at_call 83; refine (ahead_c _ _ _).mono ?_; rintro e w' ⟨rfl, t, rfl⟩) | skip)); (show K _ _); refine hK _ _ (show Ext _ _ from zq0) ?_; clear hK K; (try simp only [Act.put, List.setIfInBounds_toArray, List.set_cons_zero, List.set_cons_succ])))
                refine mix_nil ?_)
              | (
                with_reducible refine wp_region_ext (by kernel_rfl) (by kernel_rfl) ?_
                repeat (first | go_big_quiet_skip | (go_big_quiet_want; go_big_quiet_op; first | go_big_quiet_on | (apply Exists.intro; refine ⟨fun _ => ?_, ?_⟩; ((first | (go_at_call 80; first | exact quiet_call (iGstOk_c _ _ _) | exact quiet_call2 (iGstOk_c _ _ _)) | (go_at_call 83; first | exact quiet_call (ahead_c _ _ _) | exact quiet_call2 (ahead_c _ _ _)))); (try rw [h1]); (try rw [h2]); (try rw [h3]); (try rw [h4]); (try rw [p1]); (try rw [p2]); (try rw [p3]); (try rw [p4]); (try rw [r1]); (try rw [r2]); (try rw [r3]); (try rw [r4]); (try rw [r5]); (try rw [r6]); (try rw [q3]); (try rw [q4]); (try rw [hp]); (try rw [hq]); go_big_quiet_on)))
                refine wpQuiet_nil ?_
                rintro _ ⟨tq, rfl⟩))
          go_roundw
          case rel => exact ⟨k + 1, by omega, by go_num, HB.out, zq0⟩
          case measure => simp [intOf]; omega
        · obtain ⟨j, hkj⟩ : ∃ j, k = j + 1 := ⟨k - 1, by omega⟩
          have HJ := hid hkj
          have hpos : (0 : Int) < (k : Int) := by omega
          have hpos1 : 0 < k := by omega
          have hpre : (k : Int) - 1 = (j : Int) := by omega
          clear hk0 hkj
          obtain ⟨y, b2, o2, hyk, hab, hb2, g0, g1, g2, g3, g4, g5, g6⟩ := at_Gst HX.out (show j < n by have := HJ.out; omega)
          simp only [Option.some.injEq, Addr.mk.injEq, and_true] at hab
          obtain ⟨rfl, rfl⟩ := hab
          have HY := hid hyk
          clear hyk
          cases hq : gstLess y x with
          | true =>
            have HB := hid (allI_step (p := gstAt m xs) HK.out HA.out (by simp [gstAt, h1, relAt_pos HJ.out HY.out, hq]))
            try go_wp2_with (first
                | (go_at_call 80; refine (iGstOk_c _ _ _).mono ?_; rintro e w' ⟨rfl, t, rfl⟩) | (go_at_call 83; refine (ahead_c _ _ _).mono ?_; rintro e w' ⟨rfl, t, rfl⟩)
                | (
                  with_reducible refine wp_region_mix (by kernel_rfl) (by decide +kernel) ?_
                  repeat (first
                    | (refine mix_pure rfl ?_; (first | go_big_quiet_skip | (go_big_quiet_want; go_big_quiet_op; go_big_quiet_on)); refine wpQuiet_nil ?_)
                    | (refine mix_skip (by rfl) ?_; (try simp only [Act.put, List.setIfInBounds_toArray, List.set_cons_zero, List.set_cons_succ]))
                    | (refine mix_mk rfl (by rfl) (fun K hK => ?_); (first | (go_simp; first | (go_at_call 80; refine (iGstOk_c _ _ _).mono ?_; rintro e w' ⟨rfl, t, rfl⟩) | (go_at_call 83; refine (ahead_c _ _ _).mono ?_; rintro e w' ⟨rfl, t, rfl⟩) | skip)); (show K _ _); refine hK _ _ (show Ext _ _ from zq0) ?_; clear hK K; (try simp only [Act.put, List.setIfInBounds_toArray, List.set_cons_zero, List.set_cons_succ])))
                  refine mix_nil ?_)
                | (
                  with_reducible refine wp_region_ext (by kernel_rfl) (by kernel_rfl) ?_
                  repeat (first | go_big_quiet_skip | (go_big_quiet_want; go_big_quiet_op; first | go_big_quiet_on | (apply Exists.intro; refine ⟨fun _ => ?_, ?_⟩; ((first | (go_at_call 80; first | exact quiet_call (iGstOk_c _ _ _) | exact quiet_call2 (iGstOk_c _ _ _)) | (go_at_call 83; first | exact quiet_call (ahead_c _ _ _) | exact quiet_call2 (ahead_c _ _ _)))); (try rw [h1]); (try rw [h2]); (try rw [h3]); (try rw [h4]); (try rw [p1]); (try rw [p2]); (try rw [p3]); (try rw [p4]); (try rw [r1]); (try rw [r2]); (try rw [r3]); (try rw [r4]); (try rw [r5]); (try rw [r6]); (try rw [q3]); (try rw [q4]); (try rw [hp]); (try rw [hq]); go_big_quiet_on)))
                  refine wpQuiet_nil ?_
                  rintro _ ⟨tq, rfl⟩))
            go_roundw
            case rel => exact ⟨k + 1, by omega, by go_num, HB.out, zq0⟩
            case measure => simp [intOf]; omega
          | false =>
            have E := hid (show gstAll m xs = false from allI_fail (p := gstAt m xs) HK.out (by simp [gstAt, relAt_pos HJ.out HY.out, hq]))
            try go_wp2_with (first
                | (go_at_call 80; refine (iGstOk_c _ _ _).mono ?_; rintro e w' ⟨rfl, t, rfl⟩) | (go_at_call 83; refine (ahead_c _ _ _).mono ?_; rintro e w' ⟨rfl, t, rfl⟩)
                | (
                  with_reducible refine wp_region_mix (by kernel_rfl) (by decide +kernel) ?_
                  repeat (first
                    | (refine mix_pure rfl ?_; (first | go_big_quiet_skip | (go_big_quiet_want; go_big_quiet_op; go_big_quiet_on)); refine wpQuiet_nil ?_)
                    | (refine mix_skip (by rfl) ?_; (try simp only [Act.put, List.setIfInBounds_toArray, List.set_cons_zero, List.set_cons_succ]))
                    | (refine mix_mk rfl (by rfl) (fun K hK => ?_); (first | (go_simp; first | (go_at_call 80; refine (iGstOk_c _ _ _).mono ?_; rintro e w' ⟨rfl, t, rfl⟩) | (go_at_call 83; refine (ahead_c _ _ _).mono ?_; rintro e w' ⟨rfl, t, rfl⟩) | skip)); (show K _ _); refine hK _ _ (show Ext _ _ from zq0) ?_; clear hK K; (try simp only [Act.put, List.setIfInBounds_toArray, List.set_cons_zero, List.set_cons_succ])))
                  refine mix_nil ?_)
                | (
                  with_reducible refine wp_region_ext (by kernel_rfl) (by kernel_rfl) ?_
                  repeat (first | go_big_quiet_skip | (go_big_quiet_want; go_big_quiet_op; first | go_big_quiet_on | (apply Exists.intro; refine ⟨fun _ => ?_, ?_⟩; ((first | (go_at_call 80; first | exact quiet_call (iGstOk_c _ _ _) | exact quiet_call2 (iGstOk_c _ _ _)) | (go_at_call 83; first | exact quiet_call (ahead_c _ _ _) | exact quiet_call2 (ahead_c _ _ _)))); (try rw [h1]); (try rw [h2]); (try rw [h3]); (try rw [h4]); (try rw [p1]); (try rw [p2]); (try rw [p3]); (try rw [p4]); (try rw [r1]); (try rw [r2]); (try rw [r3]); (try rw [r4]); (try rw [r5]); (try rw [r6]); (try rw [q3]); (try rw [q4]); (try rw [hp]); (try rw [hq]); go_big_quiet_on)))
                  refine wpQuiet_nil ?_
                  rintro _ ⟨tq, rfl⟩))
            go_ret
            exact ⟨ret_bool (by simp only [E.out, Bool.and_false, Bool.false_and]), zq0⟩
    · have E := hid (show gstAll m xs = true from allI_all (p := gstAt m xs) (xs := xs) (k := k) (by rw [← HX.out.len]; omega) HA.out)
      cases h1 : plcOk m with
      | false =>
        try go_wp2_with (first
            | (go_at_call 13; refine (iPlcOk_c _ _).mono ?_; rintro e w' ⟨rfl, t, rfl⟩)
            | (
              with_reducible refine wp_region_mix (by kernel_rfl) (by decide +kernel) ?_
              repeat (first
                | (refine mix_pure rfl ?_; (first | go_big_quiet_skip | (go_big_quiet_want; go_big_quiet_op; go_big_quiet_on)); refine wpQuiet_nil ?_)
                | (refine mix_skip (by rfl) ?_; (try simp only [Act.put, List.setIfInBounds_toArray, List.set_cons_zero, List.set_cons_succ]))
                | (refine mix_mk rfl (by rfl) (fun K hK => ?_); (first | (go_simp; first | (go_at_call 13; refine (iPlcOk_c _ _).mono ?_; rintro e w' ⟨rfl, t, rfl⟩) | skip)); (show K _ _); refine hK _ _ (show Ext _ _ from zq0) ?_; clear hK K; (try simp only [Act.put, List.setIfInBounds_toArray, List.set_cons_zero, List.set_cons_succ])))
              refine mix_nil ?_)
            | (
              with_reducible refine wp_region_ext (by kernel_rfl) (by kernel_rfl) ?_
              repeat (first | go_big_quiet_skip | (go_big_quiet_want; go_big_quiet_op; first | go_big_quiet_on | (apply Exists.intro; refine ⟨fun _ => ?_, ?_⟩; ((first | (go_at_call 13; first | exact quiet_call (iPlcOk_c _ _) | exact quiet_call2 (iPlcOk_c _ _)))); (try rw [h1]); (try rw [h2]); (try rw [h3]); (try rw [h4]); (try rw [p1]); (try rw [p2]); (try rw [p3]); (try rw [p4]); (try rw [r1]); (try rw [r2]); (try rw [r3]); (try rw [r4]); (try rw [r5]); (try rw [r6]); (try rw [q3]); (try rw [q4]); (try rw [hp]); (try rw [hq]); go_big_quiet_on)))
              refine wpQuiet_nil ?_
              rintro _ ⟨tq, rfl⟩))
        go_ret
        exact ⟨ret_bool (by simp only [E.out, h1, Bool.false_and, Bool.and_false]), zq0⟩
      | true =>
        try go_wp2_with (first
            | (go_at_call 13; refine (iPlcOk_c _ _).mono ?_; rintro e w' ⟨rfl, t, rfl⟩)
            | (
              with_reducible refine wp_region_mix (by kernel_rfl) (by decide +kernel) ?_
              repeat (first
                | (refine mix_pure rfl ?_; (first | go_big_quiet_skip | (go_big_quiet_want; go_big_quiet_op; go_big_quiet_on)); refine wpQuiet_nil ?_)
                | (refine mix_skip (by rfl) ?_; (try simp only [Act.put, List.setIfInBounds_toArray, List.set_cons_zero, List.set_cons_succ]))
                | (refine mix_mk rfl (by rfl) (fun K hK => ?_); (first | (go_simp; first | (go_at_call 13; refine (iPlcOk_c _ _).mono ?_; rintro e w' ⟨rfl, t, rfl⟩) | skip)); (show K _ _); refine hK _ _ (show Ext _ _ from zq0) ?_; clear hK K; (try simp only [Act.put, List.setIfInBounds_toArray, List.set_cons_zero, List.set_cons_succ])))
              refine mix_nil ?_)
            | (
              with_reducible refine wp_region_ext (by kernel_rfl) (by kernel_rfl) ?_
              repeat (first | go_big_quiet_skip | (go_big_quiet_want; go_big_quiet_op; first | go_big_quiet_on | (apply Exists.intro; refine ⟨fun _ => ?_, ?_⟩; ((first | (go_at_call 13; first | exact quiet_call (iPlcOk_c _ _) | exact quiet_call2 (iPlcOk_c _ _)))); (try rw [h1]); (try rw [h2]); (try rw [h3]); (try rw [h4]); (try rw [p1]); (try rw [p2]); (try rw [p3]); (try rw [p4]); (try rw [r1]); (try rw [r2]); (try rw [r3]); (try rw [r4]); (try rw [r5]); (try rw [r6]); (try rw [q3]); (try rw [q4]); (try rw [hp]); (try rw [hq]); go_big_quiet_on)))
              refine wpQuiet_nil ?_
              rintro _ ⟨tq, rfl⟩))
        go_ret
        exact ⟨ret_bool (by simp only [E.out, h1, Bool.true_and]), zq0⟩

set_option maxRecDepth 100000 in
set_option maxHeartbeats 2000000 in
theorem sGstListOk_c (m : Mp) (xs : List Gst) (a : Option Addr) (n c : Nat) (w : World) (hx : Re w (.sl sGst) [.slice a n c] (.l (xs.map Gst.dat))) (hn : n ≤ 1048576) :
    Calls Try.prog 51 #[.agg #[.int .i64 m.c, .int .i64 m.w], .slice a n c] w fun e w' => e = .returned (.bool (gstAll m xs && decide ((n : Int) ≤ 20))) ∧ Ext w w' := by
  have HX := hid hx
  clear hx
  by_cases h20 : (n : Int) ≤ 20
  · have E20 := hid (show decide ((n : Int) ≤ 20) = true by simpa using h20)
    rw [E20.out, Bool.and_true]
    go_enter Try.func51, Try.ntmps51
    try go_wp2_with (first
        | fail
        | (
          with_reducible refine wp_region_mix (by kernel_rfl) (by decide +kernel) ?_
          repeat (first
            | (refine mix_pure rfl ?_; (first | go_big_quiet_skip | (go_big_quiet_want; go_big_quiet_op; go_big_quiet_on)); refine wpQuiet_nil ?_)
            | (refine mix_skip (by rfl) ?_; (try simp only [Act.put, List.setIfInBounds_toArray, List.set_cons_zero, List.set_cons_succ]))
            | (refine mix_mk rfl (by rfl) (fun K hK => ?_); (first | (go_simp; first | skip)); (show K _ _); refine hK _ _ (show Ext _ _ from zq0) ?_; clear hK K; (try simp only [Act.put, List.setIfInBounds_toArray, List.set_cons_zero, List.set_cons_succ])))
          refine mix_nil ?_)
        | (
          with_reducible refine wp_region_ext (by kernel_rfl) (by kernel_rfl) ?_
          repeat (first | go_big_quiet_skip | (go_big_quiet_want; go_big_quiet_op; first | go_big_quiet_on | (apply Exists.intro; refine ⟨fun _ => ?_, ?_⟩; (fail); (try rw [h1]); (try rw [h2]); (try rw [h3]); (try rw [h4]); (try rw [p1]); (try rw [p2]); (try rw [p3]); (try rw [p4]); (try rw [r1]); (try rw [r2]); (try rw [r3]); (try rw [r4]); (try rw [r5]); (try rw [r6]); (try rw [q3]); (try rw [q4]); (try rw [hp]); (try rw [hq]); go_big_quiet_on)))
          refine wpQuiet_nil ?_
          rintro _ ⟨tq, rfl⟩))
    go_loopw [5] (fun i wr => ∃ k : Nat, k ≤ n ∧ i = .int .i64 k ∧ allI (gstAt m xs) 0 (xs.take k) = true ∧ Ext (w.alloc (Obj.cells #[.int .i64 m.c, .int .i64 m.w] 24)) wr) (fun i _ => n - (intOf i).toNat)
    case atStart => exact ⟨0, Nat.zero_le _, rfl, rfl, zq0⟩
    case round =>
      obtain ⟨k, hk, rfl, hal, t', rfl⟩ := hrel
      have HA := hid hal
      clear hal
      by_cases hlt : k < n
      · obtain ⟨x, b, o, hxk, rfl, hb, f0, f1, f2, f3, f4, f5, f6⟩ := at_Gst HX.out hlt
        have HK := hid hxk
        clear hxk
        have hb1 : b ≤ w.heap.size := Nat.le_of_lt hb
        cases h1 : gstOk m x with
        | false =>
          have E := hid (show gstAll m xs = false from allI_fail (p := gstAt m xs) HK.out (by simp [gstAt, h1]))
          try go_wp2_with (first
              | (go_at_call 52; refine (sGstOk_c _ _ _).mono ?_; rintro e w' ⟨rfl, t, rfl⟩) | (go_at_call 82; refine (less_c _ _ _).mono ?_; rintro e w' ⟨rfl, t, rfl⟩)
              | (
                with_reducible refine wp_region_mix (by kernel_rfl) (by decide +kernel) ?_
                repeat (first
                  | (refine mix_pure rfl ?_; (first | go_big_quiet_skip | (go_big_quiet_want; go_big_quiet_op; go_big_quiet_on)); refine wpQuiet_nil ?_)
                  | (refine mix_skip (by rfl) ?_; (try simp only [Act.put, List.setIfInBounds_toArray, List.set_cons_zero, List.set_cons_succ]))
                  | (refine mix_mk rfl (by rfl) (fun K hK => ?_); (first | (go_simp; first | (go_at_call 52; refine (sGstOk_c _ _ _).mono ?_; rintro e w' ⟨rfl, t, rfl⟩) | (go_at_call 82; refine (less_c _ _ _).mono ?_; rintro e w' ⟨rfl, t, rfl⟩) | skip)); (show K _ _); refine hK _ _ (show Ext _ _ from zq0) ?_; clear hK K; (try simp only [Act.put, List.setIfInBounds_toArray, List.set_cons_zero, List.set_cons_succ])))
                refine mix_nil ?_)
              | (
                with_reducible refine wp_region_ext (by kernel_rfl) (by kernel_rfl) ?_
                repeat (first | go_big_quiet_skip | (go_big_quiet_want; go_big_quiet_op; first | go_big_quiet_on | (apply Exists.intro; refine ⟨fun _ => ?_, ?_⟩; ((first | (go_at_call 52; first | exact quiet_call (sGstOk_c _ _ _) | exact quiet_call2 (sGstOk_c _ _ _)) | (go_at_call 82; first | exact quiet_call (less_c _ _ _) | exact quiet_call2 (less_c _ _ _)))); (try rw [h1]); (try rw [h2]); (try rw [h3]); (try rw [h4]); (try rw [p1]); (try rw [p2]); (try rw [p3]); (try rw [p4]); (try rw [r1]); (try rw [r2]); (try rw [r3]); (try rw [r4]); (try rw [r5]); (try rw [r6]); (try rw [q3]); (try rw [q4]); (try rw [hp]); (try rw [hq]); go_big_quiet_on)))
                refine wpQuiet_nil ?_
                rintro _ ⟨tq, rfl⟩))
          go_ret
          exact ⟨ret_bool (by simp only [E.out, Bool.and_false, Bool.false_and]), zq0⟩
        | true =>
          rcases Nat.eq_zero_or_pos k with hk0 | hk0
          · have HZ := hid hk0
            have hz : ¬ (0 : Int) < (k : Int) := by omega
            have hz1 : ¬ 0 < k := by omega
            clear hk0
            have HB := hid (allI_step (p := gstAt m xs) HK.out HA.out (by simp [gstAt, h1, relAt_nul HZ.out]))
            try go_wp2_with (first
                | (go_at_call 52; refine (sGstOk_c _ _ _).mono ?_; rintro e w' ⟨rfl, t, rfl⟩) | (go_at_call 82; refine (less_c _ _ _).mono ?_; rintro e w' ⟨rfl, t, rfl⟩)
                | (
                  with_reducible refine wp_region_mix (by kernel_rfl) (by decide +kernel) ?_
                  repeat (first
                    | (refine mix_pure rfl ?_; (first | go_big_quiet_skip | (go_big_quiet_want; go_big_quiet_op; go_big_quiet_on)); refine wpQuiet_nil ?_)
                    | (refine mix_skip (by rfl) ?_; (try simp only [Act.put, List.setIfInBounds_toArray, List.set_cons_zero, List.set_cons_succ]))
                    | (refine mix_mk rfl (by rfl) (fun K hK => ?_); (first | (go_simp; first | (go_at_call 52; refine (sGstOk_c _ _ _).mono ?_; rintro e w' ⟨rfl, t, rfl⟩) | (go_at_call 82; refine (less_c _ _ _).mono ?_; rintro e w' ⟨rfl, t, rfl⟩) | skip)); (show K _ _); refine hK _ _ (show Ext _ _ from zq0) ?_; clear hK K; (try simp only [Act.put, List.setIfInBounds_toArray, List.set_cons_zero, List.set_cons_succ])))
                  refine mix_nil ?_)
                | (
                  with_reducible refine wp_region_ext (by kernel_rfl) (by kernel_rfl) ?_
                  repeat (first | go_big_quiet_skip | (go_big_quiet_want; go_big_quiet_op; first | go_big_quiet_on | (apply Exists.intro; refine ⟨fun _ => ?_, ?_⟩; ((first | (go_at_call 52; first | exact quiet_call (sGstOk_c _ _ _) | exact quiet_call2 (sGstOk_c _ _ _)) | (go_at_call 82; first | exact quiet_call (less_c _ _ _) | exact quiet_call2 (less_c _ _ _)))); (try rw [h1]); (try rw [h2]); (try rw [h3]); (try rw [h4]); (try rw [p1]); (try rw [p2]); (try rw [p3]); (try rw [p4]); (try rw [r1]); (try rw [r2]); (try rw [r3]); (try rw [r4]); (try rw [r5]); (try rw [r6]); (try rw [q3]); (try rw [q4]); (try rw [hp]); (try rw [hq]); go_big_quiet_on)))
                  refine wpQuiet_nil ?_
                  rintro _ ⟨tq, rfl⟩))
            go_roundw
            case rel => exact ⟨k + 1, by omega, by go_num, HB.out, zq0⟩
            case measure => simp [intOf]; omega
          · obtain ⟨j, hkj⟩ : ∃ j, k = j + 1 := ⟨k - 1, by omega⟩
            have HJ := hid hkj
            have hpos : (0 : Int) < (k : Int) := by omega
            have hpos1 : 0 < k := by omega
            have hpre : (k : Int) - 1 = (j : Int) := by omega
            clear hk0 hkj
            obtain ⟨y, b2, o2, hyk, hab, hb2, g0, g1, g2, g3, g4, g5, g6⟩ := at_Gst HX.out (show j < n by have := HJ.out; omega)
            simp only [Option.some.injEq, Addr.mk.injEq, and_true] at hab
            obtain ⟨rfl, rfl⟩ := hab
            have HY := hid hyk
            clear hyk
            cases hq : gstLess y x with
            | true =>
              have HB := hid (allI_step (p := gstAt m xs) HK.out HA.out (by simp [gstAt, h1, relAt_pos HJ.out HY.out, hq]))
              try go_wp2_with (first
                  | (go_at_call 52; refine (sGstOk_c _ _ _).mono ?_; rintro e w' ⟨rfl, t, rfl⟩) | (go_at_call 82; refine (less_c _ _ _).mono ?_; rintro e w' ⟨rfl, t, rfl⟩)
                  | (
                    with_reducible refine wp_region_mix (by kernel_rfl) (by decide +kernel) ?_
                    repeat (first
                      | (refine mix_pure rfl ?_; (first | go_big_quiet_skip | (go_big_quiet_want; go_big_quiet_op; go_big_quiet_on)); refine wpQuiet_nil ?_)
                      | (refine mix_skip (by rfl) ?_; (try simp only [Act.put, List.setIfInBounds_toArray, List.set_cons_zero, List.set_cons_succ]))
                      | (refine mix_mk rfl (by rfl) (fun K hK => ?_); (first | (go_simp; first | (go_at_call 52; refine (sGstOk_c _ _ _).mono ?_; rintro e w' ⟨rfl, t, rfl⟩) | (go_at_call 82; refine (less_c _ _ _).mono ?_; rintro e w' ⟨rfl, t, rfl⟩) | skip)); (show K _ _); refine hK _ _ (show Ext _ _ from zq0) ?_; clear hK K; (try simp only [Act.put, List.setIfInBounds_toArray, List.set_cons_zero, List.set_cons_succ])))
                    refine mix_nil ?_)
                  | (
                    with_reducible refine wp_region_ext (by kernel_rfl) (by kernel_rfl) ?_
                    repeat (first | go_big_quiet_skip | (go_big_quiet_want; go_big_quiet_op; first | go_big_quiet_on | (apply Exists.intro; refine ⟨fun _ => ?_, ?_⟩; ((first | (go_at_call 52; first | exact quiet_call (sGstOk_c _ _ _) | exact quiet_call2 (sGstOk_c _ _ _)) | (go_at_call 82; first | exact quiet_call (less_c _ _ _) | exact quiet_call2 (less_c _ _ _)))); (try rw [h1]); (try rw [h2]); (try rw [h3]); (try rw [h4]); (try rw [p1]); (try rw [p2]); (try rw [p3]); (try rw [p4]); (try rw [r1]); (try rw [r2]); (try rw [r3]); (try rw [r4]); (try rw [r5]); (try rw [r6]); (try rw [q3]); (try rw [q4]); (try rw [hp]); (try rw [hq]); go_big_quiet_on)))
                    refine wpQuiet_nil ?_
                    rintro _ ⟨tq, rfl⟩))
              go_roundw
              case rel => exact ⟨k + 1, by omega, by go_num, HB.out, zq0⟩
              case measure => simp [intOf]; omega
            | false =>
              have E := hid (show gstAll m xs = false from allI_fail (p := gstAt m xs) HK.out (by simp [gstAt, relAt_pos HJ.out HY.out, hq]))
              try go_wp2_with (first
                  | (go_at_call 52; refine (sGstOk_c _ _ _).mono ?_; rintro e w' ⟨rfl, t, rfl⟩) | (go_at_call 82; refine (less_c _ _ _).mono ?_; rintro e w' ⟨rfl, t, rfl⟩)
                  | (
                    with_reducible refine wp_region_mix (by kernel_rfl) (by decide +kernel) ?_
                    repeat (first
                      | (refine mix_pure rfl ?_; (first | go_big_quiet_skip | (go_big_quiet_want; go_big_quiet_op; go_big_quiet_on)); refine wpQuiet_nil ?_)
                      | (refine mix_skip (by rfl) ?_; (try simp only [Act.put, List.setIfInBounds_toArray, List.set_cons_zero, List.set_cons_succ]))
                      | (refine mix_mk rfl (by rfl) (fun K hK => ?_); (first | (go_simp; first | (go_at_call 52; refine (sGstOk_c _ _ _).mono ?_; rintro e w' ⟨rfl, t, rfl⟩) | (go_at_call 82; refine (less_c _ _ _).mono ?_; rintro e w' ⟨rfl, t, rfl⟩) | skip)); (show K _ _); refine hK _ _ (show Ext _ _ from zq0) ?_; clear hK K; (try simp only [Act.put, List.setIfInBounds_toArray, List.set_cons_zero, List.set_cons_succ])))
                    refine mix_nil ?_)
                  | (
                    with_reducible refine wp_region_ext (by kernel_rfl) (by kernel_rfl) ?_
                    repeat (first | go_big_quiet_skip | (go_big_quiet_want; go_big_quiet_op; first | go_big_quiet_on | (apply Exists.intro; refine ⟨fun _ => ?_, ?_⟩; ((first | (go_at_call 52; first | exact quiet_call (sGstOk_c _ _ _) | exact quiet_call2 (sGstOk_c _ _ _)) | (go_at_call 82; first | exact quiet_call (less_c _ _ _) | exact quiet_call2 (less_c _ _ _)))); (try rw [h1]); (try rw [h2]); (try rw [h3]); (try rw [h4]); (try rw [p1]); (try rw [p2]); (try rw [p3]); (try rw [p4]); (try rw [r1]); (try rw [r2]); (try rw [r3]); (try rw [r4]); (try rw [r5]); (try rw [r6]); (try rw [q3]); (try rw [q4]); (try rw [hp]); (try rw [hq]); go_big_quiet_on)))
                    refine wpQuiet_nil ?_
                    rintro _ ⟨tq, rfl⟩))
              go_ret
              exact ⟨ret_bool (by simp only [E.out, Bool.and_false, Bool.false_and]), zq0⟩
      · have E := hid (show gstAll m xs = true from allI_all (p := gstAt m xs) (xs := xs) (k := k) (by rw [← HX.out.len]; omega) HA.out)
        try go_wp2_with (first
            | fail
            | (
              with_reducible refine wp_region_mix (by kernel_rfl) (by decide +kernel) ?_
              repeat (first
                | (refine mix_pure rfl ?_; (first | go_big_quiet_skip | (go_big_quiet_want; go_big_quiet_op; go_big_quiet_on)); refine wpQuiet_nil ?_)
                | (refine mix_skip (by rfl) ?_; (try simp only [Act.put, List.setIfInBounds_toArray, List.set_cons_zero, List.set_cons_succ]))
                | (refine mix_mk rfl (by rfl) (fun K hK => ?_); (first | (go_simp; first | skip)); (show K _ _); refine hK _ _ (show Ext _ _ from zq0) ?_; clear hK K; (try simp only [Act.put, List.setIfInBounds_toArray, List.set_cons_zero, List.set_cons_succ])))
              refine mix_nil ?_)
            | (
              with_reducible refine wp_region_ext (by kernel_rfl) (by kernel_rfl) ?_
              repeat (first | go_big_quiet_skip | (go_big_quiet_want; go_big_quiet_op; first | go_big_quiet_on | (apply Exists.intro; refine ⟨fun _ => ?_, ?_⟩; (fail); (try rw [h1]); (try rw [h2]); (try rw [h3]); (try rw [h4]); (try rw [p1]); (try rw [p2]); (try rw [p3]); (try rw [p4]); (try rw [r1]); (try rw [r2]); (try rw [r3]); (try rw [r4]); (try rw [r5]); (try rw [r6]); (try rw [q3]); (try rw [q4]); (try rw [hp]); (try rw [hq]); go_big_quiet_on)))
              refine wpQuiet_nil ?_
              rintro _ ⟨tq, rfl⟩))
        go_ret
        exact ⟨ret_bool (by rw [E.out]), zq0⟩
  · have E20 := hid (show decide ((n : Int) ≤ 20) = false by simpa using h20)
    rw [E20.out, Bool.and_false]
    go_enter Try.func51, Try.ntmps51
    try go_wp2_with (first
        | fail
        | (
          with_reducible refine wp_region_mix (by kernel_rfl) (by decide +kernel) ?_
          repeat (first
            | (refine mix_pure rfl ?_; (first | go_big_quiet_skip | (go_big_quiet_want; go_big_quiet_op; go_big_quiet_on)); refine wpQuiet_nil ?_)
            | (refine mix_skip (by rfl) ?_; (try simp only [Act.put, List.setIfInBounds_toArray, List.set_cons_zero, List.set_cons_succ]))
            | (refine mix_mk rfl (by rfl) (fun K hK => ?_); (first | (go_simp; first | skip)); (show K _ _); refine hK _ _ (show Ext _ _ from zq0) ?_; clear hK K; (try simp only [Act.put, List.setIfInBounds_toArray, List.set_cons_zero, List.set_cons_succ])))
          refine mix_nil ?_)
        | (
          with_reducible refine wp_region_ext (by kernel_rfl) (by kernel_rfl) ?_
          repeat (first | go_big_quiet_skip | (go_big_quiet_want; go_big_quiet_op; first | go_big_quiet_on | (apply Exists.intro; refine ⟨fun _ => ?_, ?_⟩; (fail); (try rw [h1]); (try rw [h2]); (try rw [h3]); (try rw [h4]); (try rw [p1]); (try rw [p2]); (try rw [p3]); (try rw [p4]); (try rw [r1]); (try rw [r2]); (try rw [r3]); (try rw [r4]); (try rw [r5]); (try rw [r6]); (try rw [q3]); (try rw [q4]); (try rw [hp]); (try rw [hq]); go_big_quiet_on)))
          refine wpQuiet_nil ?_
          rintro _ ⟨tq, rfl⟩))
    go_ret
    exact ⟨rfl, zq0⟩
theorem iGstListOk_g (m : Mp) (xs : List Gst) (a : Option Addr) (n c : Nat) (g : Bool) (w : World) (hx : Re w (.sl sGst) [.slice a n c] (.l (xs.map Gst.dat))) (hn : n ≤ 1048576) (hg : (gstAll m xs && (plcOk m && decide ((n : Int) ≤ 20))) = g) :
    Calls Try.prog 53 #[.agg #[.int .i64 m.c, .int .i64 m.w], .slice a n c] w fun e w' => e = .returned (.bool g) ∧ Ext w w' := by
  subst hg; exact iGstListOk_c m xs a n c w hx hn
theorem sGstListOk_g (m : Mp) (xs : List Gst) (a : Option Addr) (n c : Nat) (g : Bool) (w : World) (hx : Re w (.sl sGst) [.slice a n c] (.l (xs.map Gst.dat))) (hn : n ≤ 1048576) (hg : (gstAll m xs && decide ((n : Int) ≤ 20)) = g) :
    Calls Try.prog 51 #[.agg #[.int .i64 m.c, .int .i64 m.w], .slice a n c] w fun e w' => e = .returned (.bool g) ∧ Ext w w' := by
  subst hg; exact sGstListOk_c m xs a n c w hx hn
end Go.Proofs.Ytbbpipbemhggdaa

namespace Go.Proofs.Ytbbpipbemhggdaa
open Go.RowKit
set_option linter.unusedSimpArgs false
set_option linter.unusedVariables false

/-- Which of two ghosts of one walker is kept. -/
def zG (g x : Gst) : Gst := if x.count < g.count then g else x
def sameG (g x : Gst) : Bool := (x.src == g.src) && (x.wk.id == g.wk.id)
/-- A list with a ghost recorded; n: the length of all. -/
def recL (n : Nat) (g : Gst) : List Gst → List Gst
  | [] => if n < 20 then [g] else []
  | x :: r => if gstLess x g = true then x :: recL n g r else if gstLess g x = true then (if n < 20 then g :: x :: r else x :: r) else zG g x :: r
theorem recL_len (n : Nat) (g : Gst) : ∀ xs : List Gst, (recL n g xs).length ≤ xs.length + 1
  | [] => by simp only [recL]; split <;> simp
  | x :: r => by
    have := recL_len n g r
    simp only [recL]
    repeat' split
    all_goals simp only [List.length_cons]
    all_goals omega
theorem recL_none {n : Nat} {g : Gst} : ∀ {xs : List Gst}, (∀ y ∈ xs, gstLess y g = true) → recL n g xs = if n < 20 then xs ++ [g] else xs
  | [], _ => by simp only [recL]; rfl
  | x :: r, h => by
    rw [recL, if_pos (h x (by simp)), recL_none fun y hy => h y (by simp [hy])]
    split <;> rfl
theorem recL_at {n : Nat} {g : Gst} : ∀ {xs : List Gst} {k : Nat} {x : Gst}, xs[k]? = some x → (∀ y ∈ xs.take k, gstLess y g = true) → gstLess x g = false →
    recL n g xs = if gstLess g x = true then (if n < 20 then insAt xs k g else xs) else xs.set k (zG g x)
  | [], _, _, h, _, _ => by simp at h
  | y :: r, 0, x, h, _, hn => by
    obtain rfl : y = x := by simpa using h
    rw [recL, if_neg (by rw [hn]; decide)]
    rfl
  | y :: r, k + 1, x, h, ha, hn => by
    rw [recL, if_pos (ha y (by simp)), recL_at (k := k) (x := x) (by simpa using h) (fun z hz => ha z (by simp [hz])) hn]
    repeat' split
    all_goals simp [insAt]
def stepG (n : Nat) (g : Gst) (s : List Gst × Bool) (x : Gst) : List Gst × Bool :=
  if sameG g x = true then (s.1 ++ [zG g x], true) else if (!s.2 && gstLess g x && decide (n < 20)) = true then (s.1 ++ [g] ++ [x], true) else (s.1 ++ [x], s.2)
def foldG (n : Nat) (g : Gst) (xs : List Gst) : List Gst × Bool := xs.foldl (stepG n g) ([], false)
def finG (n : Nat) (g : Gst) (s : List Gst × Bool) : List Gst := if (!s.2 && decide (n < 20)) = true then s.1 ++ [g] else s.1
theorem foldG_step {n : Nat} {g x : Gst} {xs : List Gst} {k : Nat} (h : xs[k]? = some x) : foldG n g (xs.take (k + 1)) = stepG n g (foldG n g (xs.take k)) x := by
  rw [foldG, List.take_add_one, h, List.foldl_append]; rfl
theorem stepG_len (n : Nat) (g : Gst) (s : List Gst × Bool) (x : Gst) : (stepG n g s x).1.length ≤ s.1.length + 2 := by
  unfold stepG; repeat' split
  all_goals simp
theorem foldG_len (n : Nat) (g : Gst) (xs : List Gst) (k : Nat) : (foldG n g (xs.take k)).1.length ≤ 2 * k := by
  induction k with
  | zero => simp [foldG]
  | succ k ih =>
    cases h : xs[k]? with
    | none => rw [List.take_of_length_le (by have := List.getElem?_eq_none_iff.1 h; omega)]; rw [List.take_of_length_le (by have := List.getElem?_eq_none_iff.1 h; omega)] at ih; omega
    | some x => rw [foldG_step h]; have := stepG_len n g (foldG n g (xs.take k)) x; omega
theorem gstLess_iff {a b : Gst} : gstLess a b = true ↔ a.src < b.src ∨ (a.src = b.src ∧ a.wk.id < b.wk.id) := by
  unfold gstLess; split <;> simp <;> omega
theorem gstLess_no {a b : Gst} : gstLess a b = false ↔ ¬ (a.src < b.src ∨ (a.src = b.src ∧ a.wk.id < b.wk.id)) := by
  rw [← gstLess_iff]; cases gstLess a b <;> simp
theorem sameG_iff {g x : Gst} : sameG g x = true ↔ x.src = g.src ∧ x.wk.id = g.wk.id := by simp [sameG]
theorem sameG_no {g x : Gst} : sameG g x = false ↔ ¬ (x.src = g.src ∧ x.wk.id = g.wk.id) := by rw [← sameG_iff]; cases sameG g x <;> simp
theorem fold_done {n : Nat} {g : Gst} : ∀ {xs : List Gst} {acc : List Gst}, (∀ y ∈ xs, sameG g y = false) → xs.foldl (stepG n g) (acc, true) = (acc ++ xs, true)
  | [], acc, _ => by simp
  | x :: r, acc, h => by
    rw [List.foldl_cons, stepG, if_neg (by rw [h x (by simp)]; decide), if_neg (by simp), fold_done fun y hy => h y (by simp [hy])]
    simp
theorem fold_full {n : Nat} {g : Gst} (hn : ¬ n < 20) : ∀ {xs : List Gst} {acc : List Gst}, (∀ y ∈ xs, sameG g y = false) → xs.foldl (stepG n g) (acc, false) = (acc ++ xs, false)
  | [], acc, _ => by simp
  | x :: r, acc, h => by
    rw [List.foldl_cons, stepG, if_neg (by rw [h x (by simp)]; decide), if_neg (by simp [hn]), fold_full hn fun y hy => h y (by simp [hy])]
    simp
theorem fold_recL {n : Nat} {g : Gst} : ∀ {xs : List Gst} {acc : List Gst}, xs.Pairwise (fun a b => gstLess a b = true) → finG n g (xs.foldl (stepG n g) (acc, false)) = acc ++ recL n g xs
  | [], acc, _ => by
    simp only [List.foldl_nil, finG, recL, Bool.not_false, Bool.true_and, decide_eq_true_eq]
    split <;> simp
  | x :: r, acc, h => by
    obtain ⟨h1, h2⟩ := List.pairwise_cons.1 h
    rw [List.foldl_cons, recL]
    cases hx : gstLess x g with
    | true =>
      have e1 := gstLess_iff.1 hx
      have e2 : sameG g x = false := sameG_no.2 (by omega)
      have e3 : gstLess g x = false := gstLess_no.2 (by omega)
      rw [stepG, if_neg (by rw [e2]; decide), if_neg (by simp [e3]), if_pos rfl, fold_recL h2]
      simp
    | false =>
      have e1 := gstLess_no.1 hx
      have hr : ∀ y ∈ r, sameG g y = false := fun y hy => sameG_no.2 (by have := gstLess_iff.1 (h1 y hy); omega)
      rw [if_neg (by decide)]
      cases hg : gstLess g x with
      | true =>
        have e2 := gstLess_iff.1 hg
        have e3 : sameG g x = false := sameG_no.2 (by omega)
        rw [if_pos rfl]
        by_cases hn : n < 20
        · rw [stepG, if_neg (by rw [e3]; decide), if_pos (by simp [hg, hn]), fold_done hr, finG, if_neg (by simp), if_pos hn]
          simp
        · rw [stepG, if_neg (by rw [e3]; decide), if_neg (by simp [hn]), fold_full hn hr, finG, if_neg (by simp [hn]), if_neg hn]
          simp
      | false =>
        have e2 := gstLess_no.1 hg
        have e3 : sameG g x = true := sameG_iff.2 (by omega)
        rw [stepG, if_pos e3, fold_done hr, finG, if_neg (by simp), if_neg (by decide)]
        simp
theorem gstLess_trans {a b c : Gst} (h1 : gstLess a b = true) (h2 : gstLess b c = true) : gstLess a c = true := by
  rw [gstLess_iff] at *; omega
theorem gstAll_sorted {m : Mp} {xs : List Gst} (h : gstAll m xs = true) : xs.Pairwise (fun a b => gstLess a b = true) := by
  have hc := allI_iff.1 h
  rw [List.pairwise_iff_getElem]
  intro i j hi hj hij
  obtain ⟨d, rfl⟩ : ∃ d, j = i + 1 + d := ⟨j - i - 1, by omega⟩
  induction d with
  | zero =>
    have := hc (i + 1) _ (List.getElem?_eq_getElem hj)
    simp only [gstAt, Bool.and_eq_true, Nat.zero_add] at this
    rw [relAt_pos rfl (List.getElem?_eq_getElem hi)] at this
    exact this.2
  | succ d ih =>
    have h1 := ih (by omega) (by omega)
    have := hc (i + 1 + (d + 1)) _ (List.getElem?_eq_getElem hj)
    simp only [gstAt, Bool.and_eq_true, Nat.zero_add] at this
    have this : gstOk m xs[i + 1 + (d + 1)] = true ∧ relAt gstLess xs (i + 1 + d + 1) xs[i + 1 + (d + 1)] = true := this
    rw [relAt_pos (j := i + 1 + d) rfl (List.getElem?_eq_getElem (show i + 1 + d < xs.length by omega))] at this
    exact gstLess_trans h1 this.2
def gstPutV (m : Mp) (xs : List Gst) (g : Gst) : List Gst := if (gstAll m xs && decide (xs.length ≤ 20) && gstOk m g) = true then recL xs.length g xs else []
theorem row_reG {w : World} {base : Nat} {a : Option Addr} {n c : Nat} {xs : List Gst} (hm : xs.length ≤ 9223372036854775807) (h : w.ownsRow base 71 7 (.slice a n c) xs.length (xs.flatMap Gst.cells)) : n = xs.length ∧ Re w (.sl sGst) [.slice a n c] (.l (xs.map Gst.dat)) := by
  obtain ⟨a9, c9, e9, h9⟩ := own_row (dat := Gst.dat) (sch := sGst) (k := 7) rfl (fun w x => own_Gst_mk w x) (fun _ => rfl) hm h
  obtain ⟨rfl, rfl, rfl⟩ := Value.slice.inj e9
  exact ⟨rfl, h9.re⟩
set_option maxHeartbeats 1000000 in
theorem iCloneGst_r (xs : List Gst) (a : Option Addr) (n c : Nat) (w : World) (hx : Re w (.sl sGst) [.slice a n c] (.l (xs.map Gst.dat))) (hn : n ≤ 2097152) :
    Calls Try.prog 94 #[.slice a n c] w fun e w' => ∃ v, e = .returned v ∧ Ext w w' ∧ w'.ownsRow w.heap.size 71 7 v xs.length (xs.flatMap Gst.cells) := by
  have HX := hid hx
  clear hx
  go_enter Try.func94, Try.ntmps94
  go_wp2_with (refine wpList_apps_Gst rfl _ _ rfl rfl zq0 (w0 := w) (xs := []) (World.ownsRow_nil _ _ _ _) xs rfl (HX.out.of zq0) (by simp; omega) ?_; intro v' t' hg; have HG := hid hg; clear hg)
  go_ret
  exact ⟨_, rfl, zq0, HG.out⟩
set_option maxRecDepth 100000 in
set_option maxHeartbeats 4000000 in
theorem sGstPut_c (m : Mp) (xs : List Gst) (g : Gst) (a : Option Addr) (n c : Nat) (w : World) (hx : Re w (.sl sGst) [.slice a n c] (.l (xs.map Gst.dat))) (hn : n ≤ 1048576) :
    Calls Try.prog 50 #[.agg #[.int .i64 m.c, .int .i64 m.w], .slice a n c, .agg #[.int .i64 g.src, .int .i64 g.count, .int .i64 g.wk.id, .int .i64 g.wk.at_, .int .i64 g.wk.coins, .int .i64 g.wk.seq, .int .i64 g.wk.last]] w (MadeX w 71 7 Gst.cells (gstPutV m xs g)) := by
  have HX := hid hx
  have HLn := hid (show n = xs.length from hx.len)
  clear hx
  cases q1 : (gstAll m xs && decide ((n : Int) ≤ 20)) with
  | false =>
    have HQ := hid q1
    have E := hid (show gstPutV m xs g = [] by
      have h8 := HQ.out
      rw [HLn.out] at h8
      have h9 : decide ((xs.length : Int) ≤ 20) = decide (xs.length ≤ 20) := by by_cases h : xs.length ≤ 20 <;> simp [h] <;> omega
      rw [h9] at h8
      unfold gstPutV; rw [h8]; rfl)
    clear q1
    go_enter Try.func50, Try.ntmps50
    go_wp2_with (first | (go_at_call 51; (with_reducible refine (sGstListOk_g m xs _ _ _ false _ (HX.out.of zq0) (by omega) HQ.out).mono ?_); rintro e w' ⟨rfl, t, rfl⟩))
    go_ret
    rw [E.out]
    exact ⟨_, _, [], rfl, zq0, .inl ⟨rfl, rfl, _, rfl, .inr ⟨_, rfl⟩⟩, by simp⟩
  | true =>
    have HQ := hid q1
    clear q1
    cases q2 : gstOk m g with
    | false =>
      have E := hid (show gstPutV m xs g = [] by unfold gstPutV; rw [if_neg]; simp [q2])
      go_enter Try.func50, Try.ntmps50
      go_wp2_with (first | (go_at_call 51; (with_reducible refine (sGstListOk_g m xs _ _ _ true _ (HX.out.of zq0) (by omega) HQ.out).mono ?_); rintro e w' ⟨rfl, t, rfl⟩) | (go_at_call 52; (with_reducible refine (sGstOk_c m g _).mono ?_); rintro e w' ⟨rfl, t2, rfl⟩))
      go_ret
      rw [E.out]
      exact ⟨_, _, [], rfl, zq0, .inl ⟨rfl, rfl, _, rfl, .inr ⟨_, rfl⟩⟩, by simp⟩
    | true =>
      have hq1 := HQ.out
      simp only [Bool.and_eq_true, decide_eq_true_eq] at hq1
      have E := hid (show gstPutV m xs g = finG n g (foldG n g xs) by
        have hlen := HLn.out; rw [gstPutV, if_pos (by simp [hq1.1, q2]; omega), foldG, fold_recL (gstAll_sorted hq1.1), ← hlen]; rfl)
      have hn20 : n ≤ 20 := by omega
      clear hq1
      go_enter Try.func50, Try.ntmps50
      go_wp2_with (first | (go_at_call 51; (with_reducible refine (sGstListOk_g m xs _ _ _ true _ (HX.out.of zq0) (by omega) HQ.out).mono ?_); rintro e w' ⟨rfl, t, rfl⟩) | (go_at_call 52; (with_reducible refine (sGstOk_c m g _).mono ?_); rintro e w' ⟨rfl, t2, rfl⟩))
      refine wp_gen fun B0 hB0 => ?_
      have EB : Ext w B0 := by rw [hB0]; ((try simp only [ext_drew]); (try simp only [ext_ext]); repeat (first | exact Ext.refl _ | with_reducible apply Ext.add | with_reducible apply Ext.dr | apply Ext.alloc | apply Ext.ext | apply Ext.drew | refine Ext.trans ?_ (by assumption)))
      have HRb := hid (show Re B0 (.sl sGst) [.slice a n c] (.l (xs.map Gst.dat)) from HX.out.of EB)
      have lM : w.heap.size + 1 < B0.heap.size := by rw [hB0]; ((try simp [go_sem]) <;> (try simp [Xt.add]) <;> omega)
      have cM0 : B0.cell? ⟨w.heap.size + 1, 0, none⟩ = some (.int .i64 g.src) := by rw [hB0]; simp [go_sem]
      have cM1 : B0.cell? ⟨w.heap.size + 1, 1, none⟩ = some (.int .i64 g.count) := by rw [hB0]; simp [go_sem]
      have cM2 : B0.cell? ⟨w.heap.size + 1, 2, none⟩ = some (.int .i64 g.wk.id) := by rw [hB0]; simp [go_sem]
      have cM3 : B0.cell? ⟨w.heap.size + 1, 3, none⟩ = some (.int .i64 g.wk.at_) := by rw [hB0]; simp [go_sem]
      have cM4 : B0.cell? ⟨w.heap.size + 1, 4, none⟩ = some (.int .i64 g.wk.coins) := by rw [hB0]; simp [go_sem]
      have cM5 : B0.cell? ⟨w.heap.size + 1, 5, none⟩ = some (.int .i64 g.wk.seq) := by rw [hB0]; simp [go_sem]
      have cM6 : B0.cell? ⟨w.heap.size + 1, 6, none⟩ = some (.int .i64 g.wk.last) := by rw [hB0]; simp [go_sem]
      obtain ⟨z0, hz0⟩ : ∃ z0, w.heap.size + 1 + 1 + (t.add t2).bs.size = z0 := ⟨_, rfl⟩
      have HG0 := hid (show RowX B0 71 7 Gst.cells (.slice (some ⟨w.heap.size + 1 + 1 + (t.add t2).bs.size, 0, none⟩) 0 0) [] [] from .inl ⟨rfl, rfl, _, rfl, .inr ⟨_, rfl⟩⟩)
      clear hB0 HX hz0
      generalize hGe : w.heap.size + 1 = G at *
      have HGe := hid hGe
      clear hGe
      go_loopw [7, 8, 9] (fun v d i wr => ∃ (k : Nat) (B : List Nat) (db : Bool) (L : List Gst), k ≤ n ∧ i = .int .i64 k ∧ d = .bool db ∧ foldG n g (xs.take k) = (L, db) ∧ RowX wr 71 7 Gst.cells v L B ∧ (∀ b ∈ B, B0.heap.size ≤ b) ∧ Ext B0 wr) (fun _ _ i _ => n - (intOf i).toNat)
      case atStart => exact ⟨0, [], false, [], Nat.zero_le _, rfl, rfl, rfl, HG0.out, by simp, zq0⟩
      case round =>
        obtain ⟨k, B, d, L, hk, rfl, rfl, hf, hg, hgb, t3, rfl⟩ := hrel
        have HG := hid hg
        have HGb := hid hgb
        have HF := hid hf
        have hL : L.length ≤ 40 := by have := foldG_len n g xs k; rw [hf] at this; simp only at this; omega
        clear hg hgb hf
        by_cases hlt : k < n
        · obtain ⟨x, b1, o1, hxk, rfl, hb1, f0, f1, f2, f3, f4, f5, f6⟩ := at_Gst HRb.out hlt
          have HK := hid hxk
          clear hxk
          cases e1 : (x.src == g.src) with
          | false =>
            have e3 : sameG g x = false := (by simp [sameG, e1])
            cases d with
            | true =>
              have HS := hid (show foldG n g (xs.take (k + 1)) = (L ++ [x], true) by rw [foldG_step HK.out, HF.out, stepG, if_neg (by rw [e3]; decide), if_neg (by simp)])
              clear e3
              go_wp2_with (first | (go_at_call 82; (with_reducible refine (less_c g x _).mono ?_); rintro e w' ⟨rfl, tl, rfl⟩) | ((with_reducible refine app_gate ?_); ((refine wpList_appXE (cells := Gst.cells) (k := 7) (bytes := 56) (z := .agg #[.int .i64 0, .int .i64 0, .int .i64 0, .int .i64 0, .int .i64 0, .int .i64 0, .int .i64 0]) Try.underlying69 (by kernel_rfl) rfl (by decide) (by decide) (fun _ => rfl) (fun x u hu => by simp only [Gst.cells, List.mem_cons, List.not_mem_nil, or_false] at hu; rcases hu with rfl | rfl | rfl | rfl | rfl | rfl | rfl <;> rfl) rfl (B0) _ _ rfl rfl zq0 (xs := L) (HG.out.of zq0) HGb.out (x) rfl (alloc_last (by (try simp [go_sem]) <;> (try simp [Xt.add]) <;> omega)) (by omega) ?_); intro v' t' B' hg hb; have HG' := hid hg; have HG'b := hid hb; clear hg hb)))
              go_roundw
              case rel => exact ⟨k + 1, _, true, _, by omega, by go_num, rfl, HS.out, HG'.out, HG'b.out, zq0⟩
              case measure => simp [intOf]; omega
            | false =>
              cases e4 : gstLess g x with
              | false =>
                have HS := hid (show foldG n g (xs.take (k + 1)) = (L ++ [x], false) by rw [foldG_step HK.out, HF.out, stepG, if_neg (by rw [e3]; decide), if_neg (by simp [e4])])
                clear e3
                go_wp2_with (first | (go_at_call 82; (with_reducible refine (less_c g x _).mono ?_); rintro e w' ⟨rfl, tl, rfl⟩) | ((with_reducible refine app_gate ?_); ((refine wpList_appXE (cells := Gst.cells) (k := 7) (bytes := 56) (z := .agg #[.int .i64 0, .int .i64 0, .int .i64 0, .int .i64 0, .int .i64 0, .int .i64 0, .int .i64 0]) Try.underlying69 (by kernel_rfl) rfl (by decide) (by decide) (fun _ => rfl) (fun x u hu => by simp only [Gst.cells, List.mem_cons, List.not_mem_nil, or_false] at hu; rcases hu with rfl | rfl | rfl | rfl | rfl | rfl | rfl <;> rfl) rfl (B0) _ _ rfl rfl zq0 (xs := L) (HG.out.of zq0) HGb.out (x) rfl (alloc_last (by (try simp [go_sem]) <;> (try simp [Xt.add]) <;> omega)) (by omega) ?_); intro v' t' B' hg hb; have HG' := hid hg; have HG'b := hid hb; clear hg hb)))
                go_roundw
                case rel => exact ⟨k + 1, _, false, _, by omega, by go_num, rfl, HS.out, HG'.out, HG'b.out, zq0⟩
                case measure => simp [intOf]; omega
              | true =>
                by_cases h20 : (n : Int) < 20
                · have HS := hid (show foldG n g (xs.take (k + 1)) = (L ++ [g] ++ [x], true) by rw [foldG_step HK.out, HF.out, stepG, if_neg (by rw [e3]; decide), if_pos (by simp [e4]; omega)])
                  have hL2 : (L ++ [g]).length ≤ 4194304 := by simp; omega
                  clear e3
                  go_wp2_with (first | (go_at_call 82; (with_reducible refine (less_c g x _).mono ?_); rintro e w' ⟨rfl, tl, rfl⟩) | (((with_reducible refine app_gate ?_); (refine wpList_appXC (cells := Gst.cells) (k := 7) (bytes := 56) (z := .agg #[.int .i64 0, .int .i64 0, .int .i64 0, .int .i64 0, .int .i64 0, .int .i64 0, .int .i64 0]) Try.underlying69 (by kernel_rfl) rfl (by decide) (by decide) (fun _ => rfl) (fun x u hu => by simp only [Gst.cells, List.mem_cons, List.not_mem_nil, or_false] at hu; rcases hu with rfl | rfl | rfl | rfl | rfl | rfl | rfl <;> rfl) rfl (B0) _ _ rfl rfl zq0 (xs := L) (HG.out.of zq0) HGb.out (g) rfl (alloc_last (by (try simp [go_sem]) <;> (try simp [Xt.add]) <;> omega)) (by omega) (B0.heap.size + t3.bs.size) _ (blk_alloc (blk_ext (alloc_last (by (try simp [go_sem]) <;> (try simp [Xt.add]) <;> omega)))) (fun hb => by have h7 := HG.out.lt _ hb; simp [ext_size] at h7) ?_); intro v' t' B' hg hb hpb; have HG' := hid hg; have HG'b := hid hb; have HPB := hid hpb; clear hg hb hpb); have cT0 : (ext B0 t').cell? ⟨B0.heap.size + t3.bs.size, 0, none⟩ = some (.int .i64 x.src) := (cell_blk HPB.out 0).trans rfl; have cT1 : (ext B0 t').cell? ⟨B0.heap.size + t3.bs.size, 1, none⟩ = some (.int .i64 x.count) := (cell_blk HPB.out 1).trans rfl; have cT2 : (ext B0 t').cell? ⟨B0.heap.size + t3.bs.size, 2, none⟩ = some (.int .i64 x.wk.id) := (cell_blk HPB.out 2).trans rfl; have cT3 : (ext B0 t').cell? ⟨B0.heap.size + t3.bs.size, 3, none⟩ = some (.int .i64 x.wk.at_) := (cell_blk HPB.out 3).trans rfl; have cT4 : (ext B0 t').cell? ⟨B0.heap.size + t3.bs.size, 4, none⟩ = some (.int .i64 x.wk.coins) := (cell_blk HPB.out 4).trans rfl; have cT5 : (ext B0 t').cell? ⟨B0.heap.size + t3.bs.size, 5, none⟩ = some (.int .i64 x.wk.seq) := (cell_blk HPB.out 5).trans rfl; have cT6 : (ext B0 t').cell? ⟨B0.heap.size + t3.bs.size, 6, none⟩ = some (.int .i64 x.wk.last) := (cell_blk HPB.out 6).trans rfl; have lT : B0.heap.size + t3.bs.size < (ext B0 t').heap.size := lt_blk HPB.out; rw [ext_size] at lT) | ((with_reducible refine app_gate ?_); ((refine wpList_appXE (cells := Gst.cells) (k := 7) (bytes := 56) (z := .agg #[.int .i64 0, .int .i64 0, .int .i64 0, .int .i64 0, .int .i64 0, .int .i64 0, .int .i64 0]) Try.underlying69 (by kernel_rfl) rfl (by decide) (by decide) (fun _ => rfl) (fun x u hu => by simp only [Gst.cells, List.mem_cons, List.not_mem_nil, or_false] at hu; rcases hu with rfl | rfl | rfl | rfl | rfl | rfl | rfl <;> rfl) rfl (B0) _ _ rfl rfl zq0 (xs := L ++ [g]) (HG'.out.of zq0) HG'b.out (x) rfl (alloc_last (by (try simp [go_sem]) <;> (try simp [Xt.add]) <;> omega)) (by omega) ?_); intro v' t' B' hg hb; have HG'' := hid hg; have HG''b := hid hb; clear hg hb)))
                  go_roundw
                  case rel => exact ⟨k + 1, _, true, _, by omega, by go_num, rfl, HS.out, HG''.out, HG''b.out, zq0⟩
                  case measure => simp [intOf]; omega
                · have HS := hid (show foldG n g (xs.take (k + 1)) = (L ++ [x], false) by rw [foldG_step HK.out, HF.out, stepG, if_neg (by rw [e3]; decide), if_neg (by simp [e4]; omega)])
                  clear e3
                  go_wp2_with (first | (go_at_call 82; (with_reducible refine (less_c g x _).mono ?_); rintro e w' ⟨rfl, tl, rfl⟩) | ((with_reducible refine app_gate ?_); ((refine wpList_appXE (cells := Gst.cells) (k := 7) (bytes := 56) (z := .agg #[.int .i64 0, .int .i64 0, .int .i64 0, .int .i64 0, .int .i64 0, .int .i64 0, .int .i64 0]) Try.underlying69 (by kernel_rfl) rfl (by decide) (by decide) (fun _ => rfl) (fun x u hu => by simp only [Gst.cells, List.mem_cons, List.not_mem_nil, or_false] at hu; rcases hu with rfl | rfl | rfl | rfl | rfl | rfl | rfl <;> rfl) rfl (B0) _ _ rfl rfl zq0 (xs := L) (HG.out.of zq0) HGb.out (x) rfl (alloc_last (by (try simp [go_sem]) <;> (try simp [Xt.add]) <;> omega)) (by omega) ?_); intro v' t' B' hg hb; have HG' := hid hg; have HG'b := hid hb; clear hg hb)))
                  go_roundw
                  case rel => exact ⟨k + 1, _, false, _, by omega, by go_num, rfl, HS.out, HG'.out, HG'b.out, zq0⟩
                  case measure => simp [intOf]; omega
          | true =>
            cases e2 : (x.wk.id == g.wk.id) with
            | false =>
              have e3 : sameG g x = false := (by simp [sameG, e1, e2])
              cases d with
              | true =>
                have HS := hid (show foldG n g (xs.take (k + 1)) = (L ++ [x], true) by rw [foldG_step HK.out, HF.out, stepG, if_neg (by rw [e3]; decide), if_neg (by simp)])
                clear e3
                go_wp2_with (first | (go_at_call 82; (with_reducible refine (less_c g x _).mono ?_); rintro e w' ⟨rfl, tl, rfl⟩) | ((with_reducible refine app_gate ?_); ((refine wpList_appXE (cells := Gst.cells) (k := 7) (bytes := 56) (z := .agg #[.int .i64 0, .int .i64 0, .int .i64 0, .int .i64 0, .int .i64 0, .int .i64 0, .int .i64 0]) Try.underlying69 (by kernel_rfl) rfl (by decide) (by decide) (fun _ => rfl) (fun x u hu => by simp only [Gst.cells, List.mem_cons, List.not_mem_nil, or_false] at hu; rcases hu with rfl | rfl | rfl | rfl | rfl | rfl | rfl <;> rfl) rfl (B0) _ _ rfl rfl zq0 (xs := L) (HG.out.of zq0) HGb.out (x) rfl (alloc_last (by (try simp [go_sem]) <;> (try simp [Xt.add]) <;> omega)) (by omega) ?_); intro v' t' B' hg hb; have HG' := hid hg; have HG'b := hid hb; clear hg hb)))
                go_roundw
                case rel => exact ⟨k + 1, _, true, _, by omega, by go_num, rfl, HS.out, HG'.out, HG'b.out, zq0⟩
                case measure => simp [intOf]; omega
              | false =>
                cases e4 : gstLess g x with
                | false =>
                  have HS := hid (show foldG n g (xs.take (k + 1)) = (L ++ [x], false) by rw [foldG_step HK.out, HF.out, stepG, if_neg (by rw [e3]; decide), if_neg (by simp [e4])])
                  clear e3
                  go_wp2_with (first | (go_at_call 82; (with_reducible refine (less_c g x _).mono ?_); rintro e w' ⟨rfl, tl, rfl⟩) | ((with_reducible refine app_gate ?_); ((refine wpList_appXE (cells := Gst.cells) (k := 7) (bytes := 56) (z := .agg #[.int .i64 0, .int .i64 0, .int .i64 0, .int .i64 0, .int .i64 0, .int .i64 0, .int .i64 0]) Try.underlying69 (by kernel_rfl) rfl (by decide) (by decide) (fun _ => rfl) (fun x u hu => by simp only [Gst.cells, List.mem_cons, List.not_mem_nil, or_false] at hu; rcases hu with rfl | rfl | rfl | rfl | rfl | rfl | rfl <;> rfl) rfl (B0) _ _ rfl rfl zq0 (xs := L) (HG.out.of zq0) HGb.out (x) rfl (alloc_last (by (try simp [go_sem]) <;> (try simp [Xt.add]) <;> omega)) (by omega) ?_); intro v' t' B' hg hb; have HG' := hid hg; have HG'b := hid hb; clear hg hb)))
                  go_roundw
                  case rel => exact ⟨k + 1, _, false, _, by omega, by go_num, rfl, HS.out, HG'.out, HG'b.out, zq0⟩
                  case measure => simp [intOf]; omega
                | true =>
                  by_cases h20 : (n : Int) < 20
                  · have HS := hid (show foldG n g (xs.take (k + 1)) = (L ++ [g] ++ [x], true) by rw [foldG_step HK.out, HF.out, stepG, if_neg (by rw [e3]; decide), if_pos (by simp [e4]; omega)])
                    have hL2 : (L ++ [g]).length ≤ 4194304 := by simp; omega
                    clear e3
                    go_wp2_with (first | (go_at_call 82; (with_reducible refine (less_c g x _).mono ?_); rintro e w' ⟨rfl, tl, rfl⟩) | (((with_reducible refine app_gate ?_); (refine wpList_appXC (cells := Gst.cells) (k := 7) (bytes := 56) (z := .agg #[.int .i64 0, .int .i64 0, .int .i64 0, .int .i64 0, .int .i64 0, .int .i64 0, .int .i64 0]) Try.underlying69 (by kernel_rfl) rfl (by decide) (by decide) (fun _ => rfl) (fun x u hu => by simp only [Gst.cells, List.mem_cons, List.not_mem_nil, or_false] at hu; rcases hu with rfl | rfl | rfl | rfl | rfl | rfl | rfl <;> rfl) rfl (B0) _ _ rfl rfl zq0 (xs := L) (HG.out.of zq0) HGb.out (g) rfl (alloc_last (by (try simp [go_sem]) <;> (try simp [Xt.add]) <;> omega)) (by omega) (B0.heap.size + t3.bs.size) _ (blk_alloc (blk_ext (alloc_last (by (try simp [go_sem]) <;> (try simp [Xt.add]) <;> omega)))) (fun hb => by have h7 := HG.out.lt _ hb; simp [ext_size] at h7) ?_); intro v' t' B' hg hb hpb; have HG' := hid hg; have HG'b := hid hb; have HPB := hid hpb; clear hg hb hpb); have cT0 : (ext B0 t').cell? ⟨B0.heap.size + t3.bs.size, 0, none⟩ = some (.int .i64 x.src) := (cell_blk HPB.out 0).trans rfl; have cT1 : (ext B0 t').cell? ⟨B0.heap.size + t3.bs.size, 1, none⟩ = some (.int .i64 x.count) := (cell_blk HPB.out 1).trans rfl; have cT2 : (ext B0 t').cell? ⟨B0.heap.size + t3.bs.size, 2, none⟩ = some (.int .i64 x.wk.id) := (cell_blk HPB.out 2).trans rfl; have cT3 : (ext B0 t').cell? ⟨B0.heap.size + t3.bs.size, 3, none⟩ = some (.int .i64 x.wk.at_) := (cell_blk HPB.out 3).trans rfl; have cT4 : (ext B0 t').cell? ⟨B0.heap.size + t3.bs.size, 4, none⟩ = some (.int .i64 x.wk.coins) := (cell_blk HPB.out 4).trans rfl; have cT5 : (ext B0 t').cell? ⟨B0.heap.size + t3.bs.size, 5, none⟩ = some (.int .i64 x.wk.seq) := (cell_blk HPB.out 5).trans rfl; have cT6 : (ext B0 t').cell? ⟨B0.heap.size + t3.bs.size, 6, none⟩ = some (.int .i64 x.wk.last) := (cell_blk HPB.out 6).trans rfl; have lT : B0.heap.size + t3.bs.size < (ext B0 t').heap.size := lt_blk HPB.out; rw [ext_size] at lT) | ((with_reducible refine app_gate ?_); ((refine wpList_appXE (cells := Gst.cells) (k := 7) (bytes := 56) (z := .agg #[.int .i64 0, .int .i64 0, .int .i64 0, .int .i64 0, .int .i64 0, .int .i64 0, .int .i64 0]) Try.underlying69 (by kernel_rfl) rfl (by decide) (by decide) (fun _ => rfl) (fun x u hu => by simp only [Gst.cells, List.mem_cons, List.not_mem_nil, or_false] at hu; rcases hu with rfl | rfl | rfl | rfl | rfl | rfl | rfl <;> rfl) rfl (B0) _ _ rfl rfl zq0 (xs := L ++ [g]) (HG'.out.of zq0) HG'b.out (x) rfl (alloc_last (by (try simp [go_sem]) <;> (try simp [Xt.add]) <;> omega)) (by omega) ?_); intro v' t' B' hg hb; have HG'' := hid hg; have HG''b := hid hb; clear hg hb)))
                    go_roundw
                    case rel => exact ⟨k + 1, _, true, _, by omega, by go_num, rfl, HS.out, HG''.out, HG''b.out, zq0⟩
                    case measure => simp [intOf]; omega
                  · have HS := hid (show foldG n g (xs.take (k + 1)) = (L ++ [x], false) by rw [foldG_step HK.out, HF.out, stepG, if_neg (by rw [e3]; decide), if_neg (by simp [e4]; omega)])
                    clear e3
                    go_wp2_with (first | (go_at_call 82; (with_reducible refine (less_c g x _).mono ?_); rintro e w' ⟨rfl, tl, rfl⟩) | ((with_reducible refine app_gate ?_); ((refine wpList_appXE (cells := Gst.cells) (k := 7) (bytes := 56) (z := .agg #[.int .i64 0, .int .i64 0, .int .i64 0, .int .i64 0, .int .i64 0, .int .i64 0, .int .i64 0]) Try.underlying69 (by kernel_rfl) rfl (by decide) (by decide) (fun _ => rfl) (fun x u hu => by simp only [Gst.cells, List.mem_cons, List.not_mem_nil, or_false] at hu; rcases hu with rfl | rfl | rfl | rfl | rfl | rfl | rfl <;> rfl) rfl (B0) _ _ rfl rfl zq0 (xs := L) (HG.out.of zq0) HGb.out (x) rfl (alloc_last (by (try simp [go_sem]) <;> (try simp [Xt.add]) <;> omega)) (by omega) ?_); intro v' t' B' hg hb; have HG' := hid hg; have HG'b := hid hb; clear hg hb)))
                    go_roundw
                    case rel => exact ⟨k + 1, _, false, _, by omega, by go_num, rfl, HS.out, HG'.out, HG'b.out, zq0⟩
                    case measure => simp [intOf]; omega
            | true =>
              have e3 : sameG g x = true := by simp [sameG, e1, e2]
              by_cases hc : x.count < g.count
              · have HS := hid (show foldG n g (xs.take (k + 1)) = (L ++ [g], true) by rw [foldG_step HK.out, HF.out, stepG, if_pos e3, zG, if_pos hc])
                have hc' : decide (x.count < g.count) = true := by simpa using hc
                clear e3
                go_wp2_with (first | (go_at_call 82; (with_reducible refine (less_c g x _).mono ?_); rintro e w' ⟨rfl, tl, rfl⟩) | ((with_reducible refine app_gate ?_); ((refine wpList_appXE (cells := Gst.cells) (k := 7) (bytes := 56) (z := .agg #[.int .i64 0, .int .i64 0, .int .i64 0, .int .i64 0, .int .i64 0, .int .i64 0, .int .i64 0]) Try.underlying69 (by kernel_rfl) rfl (by decide) (by decide) (fun _ => rfl) (fun x u hu => by simp only [Gst.cells, List.mem_cons, List.not_mem_nil, or_false] at hu; rcases hu with rfl | rfl | rfl | rfl | rfl | rfl | rfl <;> rfl) rfl (B0) _ _ rfl rfl zq0 (xs := L) (HG.out.of zq0) HGb.out (g) rfl (alloc_last (by (try simp [go_sem]) <;> (try simp [Xt.add]) <;> omega)) (by omega) ?_); intro v' t' B' hg hb; have HG' := hid hg; have HG'b := hid hb; clear hg hb)))
                go_roundw
                case rel => exact ⟨k + 1, _, true, _, by omega, by go_num, rfl, HS.out, HG'.out, HG'b.out, zq0⟩
                case measure => simp [intOf]; omega
              · have HS := hid (show foldG n g (xs.take (k + 1)) = (L ++ [x], true) by rw [foldG_step HK.out, HF.out, stepG, if_pos e3, zG, if_neg hc])
                have hc' : decide (x.count < g.count) = false := by simpa using hc
                clear e3
                go_wp2_with (first | (go_at_call 82; (with_reducible refine (less_c g x _).mono ?_); rintro e w' ⟨rfl, tl, rfl⟩) | ((with_reducible refine app_gate ?_); ((refine wpList_appXE (cells := Gst.cells) (k := 7) (bytes := 56) (z := .agg #[.int .i64 0, .int .i64 0, .int .i64 0, .int .i64 0, .int .i64 0, .int .i64 0, .int .i64 0]) Try.underlying69 (by kernel_rfl) rfl (by decide) (by decide) (fun _ => rfl) (fun x u hu => by simp only [Gst.cells, List.mem_cons, List.not_mem_nil, or_false] at hu; rcases hu with rfl | rfl | rfl | rfl | rfl | rfl | rfl <;> rfl) rfl (B0) _ _ rfl rfl zq0 (xs := L) (HG.out.of zq0) HGb.out (x) rfl (alloc_last (by (try simp [go_sem]) <;> (try simp [Xt.add]) <;> omega)) (by omega) ?_); intro v' t' B' hg hb; have HG' := hid hg; have HG'b := hid hb; clear hg hb)))
                go_roundw
                case rel => exact ⟨k + 1, _, true, _, by omega, by go_num, rfl, HS.out, HG'.out, HG'b.out, zq0⟩
                case measure => simp [intOf]; omega
        · have hke : k = n := by omega
          subst hke
          have HT := hid (show foldG k g xs = (L, d) by rw [← HF.out, List.take_of_length_le (by have := HLn.out; omega)])
          obtain ⟨a5, c5, rfl⟩ := HG.out.slice
          cases d with
          | true =>
            have HE := hid (show gstPutV m xs g = L by rw [E.out, HT.out, finG, if_neg (by simp)])
            go_wp2
            go_ret
            rw [HE.out]
            exact ⟨a5, c5, B, rfl, zq0, HG.out.of zq0, fun b hb => Nat.le_trans EB.size (HGb.out b hb)⟩
          | false =>
            by_cases h20 : (k : Int) < 20
            · have HE := hid (show gstPutV m xs g = L ++ [g] by rw [E.out, HT.out, finG, if_pos (by simp; omega)])
              go_wp2_with (first | ((with_reducible refine app_gate ?_); ((refine wpList_appXE (cells := Gst.cells) (k := 7) (bytes := 56) (z := .agg #[.int .i64 0, .int .i64 0, .int .i64 0, .int .i64 0, .int .i64 0, .int .i64 0, .int .i64 0]) Try.underlying69 (by kernel_rfl) rfl (by decide) (by decide) (fun _ => rfl) (fun x u hu => by simp only [Gst.cells, List.mem_cons, List.not_mem_nil, or_false] at hu; rcases hu with rfl | rfl | rfl | rfl | rfl | rfl | rfl <;> rfl) rfl (B0) _ _ rfl rfl zq0 (xs := L) (HG.out.of zq0) HGb.out (g) rfl (alloc_last (by (try simp [go_sem]) <;> (try simp [Xt.add]) <;> omega)) (by omega) ?_); intro v' t' B' hg hb; have HG' := hid hg; have HG'b := hid hb; clear hg hb)))
              go_ret
              rw [HE.out]
              obtain ⟨a6, c6, rfl⟩ := HG'.out.slice
              exact ⟨a6, c6, _, rfl, zq0, HG'.out.of zq0, fun b hb => Nat.le_trans EB.size (HG'b.out b hb)⟩
            · have HE := hid (show gstPutV m xs g = L by rw [E.out, HT.out, finG, if_neg (by simp; omega)])
              go_wp2
              go_ret
              rw [HE.out]
              exact ⟨a5, c5, B, rfl, zq0, HG.out.of zq0, fun b hb => Nat.le_trans EB.size (HGb.out b hb)⟩

theorem set_self {α : Type} {xs : List α} {k : Nat} {x : α} (h : xs[k]? = some x) : xs.set k x = xs := by
  obtain ⟨hk, rfl⟩ := List.getElem?_eq_some_iff.1 h
  exact List.set_getElem_self hk
def notAh (g x : Gst) : Bool := !gstLess x g
theorem notAh_all {g : Gst} {xs : List Gst} (h : ∀ y ∈ xs, notAh g y = false) : ∀ y ∈ xs, gstLess y g = true := fun y hy => by simpa [notAh] using h y hy
theorem arrO {arr : Array Value} {i j : Nat} {v : Value} {x : Option Value} (h : i ≠ j) (k : arr[j]? = x) : (arr.setIfInBounds i v)[j]? = x := by
  rw [Array.getElem?_setIfInBounds, if_neg h]; exact k
theorem arrA {arr : Array Value} {i j : Nat} {v : Value} (e : i = j) (h : i < arr.size) : (arr.setIfInBounds i v)[j]? = some v := by
  subst e; rw [Array.getElem?_setIfInBounds, if_pos rfl, if_pos h]
def recArr (arr : Array Value) (k : Nat) (g : Gst) : Array Value := ((((((arr.setIfInBounds (k * 7) (.int .i64 g.src)).setIfInBounds (k * 7 + 1) (.int .i64 g.count)).setIfInBounds (k * 7 + 2) (.int .i64 g.wk.id)).setIfInBounds (k * 7 + 3) (.int .i64 g.wk.at_)).setIfInBounds (k * 7 + 4) (.int .i64 g.wk.coins)).setIfInBounds (k * 7 + 5) (.int .i64 g.wk.seq)).setIfInBounds (k * 7 + 6) (.int .i64 g.wk.last)
theorem recArr_ok {arr : Array Value} {k : Nat} {g : Gst} (hsz : k * 7 + 7 ≤ arr.size) :
    (recArr arr k g).size = arr.size ∧ (∀ i, ¬ (k * 7 ≤ i ∧ i < k * 7 + 7) → (recArr arr k g)[i]? = arr[i]?) ∧ (∀ i v, g.cells[i]? = some v → (recArr arr k g)[k * 7 + i]? = some v) := by
  unfold recArr
  refine ⟨by simp, fun i hi => ?_, fun i v hv => ?_⟩
  · repeat (with_reducible refine arrO (by omega) ?_)
    rfl
  · match i, hv with
    | 0, hv =>
      repeat (with_reducible refine arrO (by omega) ?_)
      exact (arrA (by omega) (by (try simp only [Array.size_setIfInBounds]); omega)).trans hv
    | 1, hv =>
      repeat (with_reducible refine arrO (by omega) ?_)
      exact (arrA (by omega) (by (try simp only [Array.size_setIfInBounds]); omega)).trans hv
    | 2, hv =>
      repeat (with_reducible refine arrO (by omega) ?_)
      exact (arrA (by omega) (by (try simp only [Array.size_setIfInBounds]); omega)).trans hv
    | 3, hv =>
      repeat (with_reducible refine arrO (by omega) ?_)
      exact (arrA (by omega) (by (try simp only [Array.size_setIfInBounds]); omega)).trans hv
    | 4, hv =>
      repeat (with_reducible refine arrO (by omega) ?_)
      exact (arrA (by omega) (by (try simp only [Array.size_setIfInBounds]); omega)).trans hv
    | 5, hv =>
      repeat (with_reducible refine arrO (by omega) ?_)
      exact (arrA (by omega) (by (try simp only [Array.size_setIfInBounds]); omega)).trans hv
    | 6, hv =>
      repeat (with_reducible refine arrO (by omega) ?_)
      exact (arrA (by omega) (by (try simp only [Array.size_setIfInBounds]); omega)).trans hv
set_option maxRecDepth 100000 in
set_option maxHeartbeats 4000000 in
theorem record_c (xs : List Gst) (g : Gst) (a : Option Addr) (n c : Nat) (w : World) (hx : Re w (.sl sGst) [.slice a n c] (.l (xs.map Gst.dat))) (hn : n ≤ 1048576) :
    Calls Try.prog 81 #[.slice a n c, .agg #[.int .i64 g.src, .int .i64 g.count, .int .i64 g.wk.id, .int .i64 g.wk.at_, .int .i64 g.wk.coins, .int .i64 g.wk.seq, .int .i64 g.wk.last]] w (MadeX w 71 7 Gst.cells (recL n g xs)) := by
  have HX := hid hx
  have HLn := hid (show n = xs.length from hx.len)
  clear hx
  go_enter Try.func81, Try.ntmps81
  go_wp2_with (go_at_call 94; ((with_reducible refine (iCloneGst_r xs _ _ _ _ (HX.out.of zq0) (by omega)).mono ?_); rintro e w' ⟨v, rfl, ⟨t, rfl⟩, hrow⟩; obtain ⟨sa, sn, sc, rfl⟩ := row_slice hrow; obtain ⟨hsn, hre⟩ := row_reG (by have := HLn.out; omega) hrow; have HG0 := hid (ownsRow_le (base' := w.heap.size + 1) hrow (by simp)); have HRo := hid hre; have HSN := hid hsn; clear hrow hre hsn))
  refine wp_gen fun B0 hB0 => ?_
  have EB : Ext w B0 := by rw [hB0]; ((try simp only [ext_drew]); (try simp only [ext_ext]); repeat (first | exact Ext.refl _ | with_reducible apply Ext.add | with_reducible apply Ext.dr | apply Ext.alloc | apply Ext.ext | apply Ext.drew | refine Ext.trans ?_ (by assumption)))
  have hsn : sn = n := by rw [HSN.out, HLn.out]
  subst hsn
  have HRb := hid (show Re B0 (.sl sGst) [.slice sa sn sc] (.l (xs.map Gst.dat)) by rw [hB0]; exact HRo.out.of zq0)
  have HG := hid (show B0.ownsRow (w.heap.size + 1) 71 7 (.slice sa sn sc) xs.length (xs.flatMap Gst.cells) by rw [hB0]; exact ownsRow_of HG0.out zq0)
  have lM : w.heap.size < B0.heap.size := by rw [hB0]; ((try simp [go_sem]) <;> (try simp [Xt.add]) <;> omega)
  have cM0 : B0.cell? ⟨w.heap.size, 0, none⟩ = some (.int .i64 g.src) := by rw [hB0]; simp [go_sem]
  have cM1 : B0.cell? ⟨w.heap.size, 1, none⟩ = some (.int .i64 g.count) := by rw [hB0]; simp [go_sem]
  have cM2 : B0.cell? ⟨w.heap.size, 2, none⟩ = some (.int .i64 g.wk.id) := by rw [hB0]; simp [go_sem]
  have cM3 : B0.cell? ⟨w.heap.size, 3, none⟩ = some (.int .i64 g.wk.at_) := by rw [hB0]; simp [go_sem]
  have cM4 : B0.cell? ⟨w.heap.size, 4, none⟩ = some (.int .i64 g.wk.coins) := by rw [hB0]; simp [go_sem]
  have cM5 : B0.cell? ⟨w.heap.size, 5, none⟩ = some (.int .i64 g.wk.seq) := by rw [hB0]; simp [go_sem]
  have cM6 : B0.cell? ⟨w.heap.size, 6, none⟩ = some (.int .i64 g.wk.last) := by rw [hB0]; simp [go_sem]
  clear hB0 HRo HG0 HX
  go_loopw [6] (fun i wr => ∃ k : Nat, k ≤ sn ∧ i = .int .i64 k ∧ (∀ y ∈ xs.take k, notAh g y = false) ∧ Ext B0 wr) (fun i _ => sn - (intOf i).toNat)
  case atStart => exact ⟨0, Nat.zero_le _, rfl, by simp, zq0⟩
  case round =>
    obtain ⟨k, hk, rfl, hal, t3, rfl⟩ := hrel
    have HA := hid hal
    clear hal
    by_cases hlt : k < sn
    · obtain ⟨x, b1, o1, hxk, rfl, hb1, f0, f1, f2, f3, f4, f5, f6⟩ := at_Gst HRb.out hlt
      have HK := hid hxk
      clear hxk
      cases hp : gstLess x g with
      | true =>
        have HT := hid (take_step (p := notAh g) HA.out HK.out (by simp [notAh, hp]))
        try go_wp2_with (first
            | (go_at_call 83; refine (ahead_c _ _ _).mono ?_; rintro e w' ⟨rfl, t, rfl⟩)
            | (
              with_reducible refine wp_region_mix (by kernel_rfl) (by decide +kernel) ?_
              repeat (first
                | (refine mix_pure rfl ?_; (first | go_big_quiet_skip | (go_big_quiet_want; go_big_quiet_op; go_big_quiet_on)); refine wpQuiet_nil ?_)
                | (refine mix_skip (by rfl) ?_; (try simp only [Act.put, List.setIfInBounds_toArray, List.set_cons_zero, List.set_cons_succ]))
                | (refine mix_mk rfl (by rfl) (fun K hK => ?_); (first | (go_simp; first | (go_at_call 83; refine (ahead_c _ _ _).mono ?_; rintro e w' ⟨rfl, t, rfl⟩) | skip)); (show K _ _); refine hK _ _ (show Ext _ _ from zq0) ?_; clear hK K; (try simp only [Act.put, List.setIfInBounds_toArray, List.set_cons_zero, List.set_cons_succ])))
              refine mix_nil ?_)
            | (
              with_reducible refine wp_region_ext (by kernel_rfl) (by kernel_rfl) ?_
              repeat (first | go_big_quiet_skip | (go_big_quiet_want; go_big_quiet_op; first | go_big_quiet_on | (apply Exists.intro; refine ⟨fun _ => ?_, ?_⟩; ((first | (go_at_call 83; first | exact quiet_call (ahead_c _ _ _) | exact quiet_call2 (ahead_c _ _ _)))); (try rw [h1]); (try rw [h2]); (try rw [h3]); (try rw [h4]); (try rw [p1]); (try rw [p2]); (try rw [p3]); (try rw [p4]); (try rw [r1]); (try rw [r2]); (try rw [r3]); (try rw [r4]); (try rw [r5]); (try rw [r6]); (try rw [q3]); (try rw [q4]); (try rw [hp]); (try rw [hq]); go_big_quiet_on)))
              refine wpQuiet_nil ?_
              rintro _ ⟨tq, rfl⟩))
        go_roundw
        case rel => exact ⟨k + 1, by omega, by go_num, HT.out, zq0⟩
        case measure => simp [intOf]; omega
      | false =>
        have E0 := recL_at (n := sn) HK.out (notAh_all HA.out) hp
        have HE0 := hid E0
        clear E0
        cases hq : gstLess g x with
        | true =>
          by_cases h20 : (sn : Int) < 20
          · have E := hid (show recL sn g xs = insAt xs k g by rw [HE0.out, if_pos hq, if_pos (by omega)])
            have hkl : k ≤ xs.length := by have := HLn.out; omega
            clear HE0
            try go_wp2_with (first
                | (go_at_call 83; refine (ahead_c _ _ _).mono ?_; rintro e w' ⟨rfl, t, rfl⟩) | (go_at_call 95; ((refine (insGst_c xs g _ k _ _ (w.heap.size + 1) _ (ownsRow_of HG.out zq0) (by (try simp [go_sem]) <;> (try simp [Xt.add]) <;> omega) hkl (by exact alloc_last (by (try simp [go_sem]) <;> (try simp [Xt.add]) <;> omega)) (fun g hg => Nat.ne_of_gt (Nat.lt_of_lt_of_le (HG.out.lt g hg).2 (by (try simp [go_sem]) <;> (try simp [Xt.add]) <;> omega))) (by have := HLn.out; omega)).mono ?_); rintro e w' ⟨v2, rfl, hrow2, hch⟩; obtain ⟨t3, rfl⟩ : Ext w w' := Ext.of_below (Below.chg (w0 := w) (Ext.below zq0) hch (fun g hg => Nat.le_trans (Nat.le_succ _) (HG.out.lt g (by simpa using hg)).1)); obtain ⟨ra, rn, rc, rfl⟩ := row_slice hrow2; obtain ⟨hrn, hre2⟩ := row_reG (by rw [insAt_len _ _ _ hkl]; have := HLn.out; omega) hrow2; have HR2 := hid hre2; have hrm : rn ≤ 2097152 := (by rw [hrn, insAt_len _ _ _ hkl]; have := HLn.out; omega); clear hrow2 hre2 hch hrn)) | (go_at_call 94; ((with_reducible refine (iCloneGst_x (insAt xs k g) _ _ _ _ (HR2.out.of zq0) hrm).mono ?_); rintro e w' ⟨a4, c4, B4, rfl, ⟨t4, rfl⟩, hx4, hb4⟩; have HX4 := hid hx4; have HB4 := hid hb4; clear hx4 hb4))
                | (
                  with_reducible refine wp_region_mix (by kernel_rfl) (by decide +kernel) ?_
                  repeat (first
                    | (refine mix_pure rfl ?_; (first | go_big_quiet_skip | (go_big_quiet_want; go_big_quiet_op; go_big_quiet_on)); refine wpQuiet_nil ?_)
                    | (refine mix_skip (by rfl) ?_; (try simp only [Act.put, List.setIfInBounds_toArray, List.set_cons_zero, List.set_cons_succ]))
                    | (refine mix_mk rfl (by rfl) (fun K hK => ?_); (first | (go_simp; first | (go_at_call 83; refine (ahead_c _ _ _).mono ?_; rintro e w' ⟨rfl, t, rfl⟩) | (go_at_call 95; ((refine (insGst_c xs g _ k _ _ (w.heap.size + 1) _ (ownsRow_of HG.out zq0) (by (try simp [go_sem]) <;> (try simp [Xt.add]) <;> omega) hkl (by exact alloc_last (by (try simp [go_sem]) <;> (try simp [Xt.add]) <;> omega)) (fun g hg => Nat.ne_of_gt (Nat.lt_of_lt_of_le (HG.out.lt g hg).2 (by (try simp [go_sem]) <;> (try simp [Xt.add]) <;> omega))) (by have := HLn.out; omega)).mono ?_); rintro e w' ⟨v2, rfl, hrow2, hch⟩; obtain ⟨t3, rfl⟩ : Ext w w' := Ext.of_below (Below.chg (w0 := w) (Ext.below zq0) hch (fun g hg => Nat.le_trans (Nat.le_succ _) (HG.out.lt g (by simpa using hg)).1)); obtain ⟨ra, rn, rc, rfl⟩ := row_slice hrow2; obtain ⟨hrn, hre2⟩ := row_reG (by rw [insAt_len _ _ _ hkl]; have := HLn.out; omega) hrow2; have HR2 := hid hre2; have hrm : rn ≤ 2097152 := (by rw [hrn, insAt_len _ _ _ hkl]; have := HLn.out; omega); clear hrow2 hre2 hch hrn)) | (go_at_call 94; ((with_reducible refine (iCloneGst_x (insAt xs k g) _ _ _ _ (HR2.out.of zq0) hrm).mono ?_); rintro e w' ⟨a4, c4, B4, rfl, ⟨t4, rfl⟩, hx4, hb4⟩; have HX4 := hid hx4; have HB4 := hid hb4; clear hx4 hb4)) | skip)); (show K _ _); refine hK _ _ (show Ext _ _ from zq0) ?_; clear hK K; (try simp only [Act.put, List.setIfInBounds_toArray, List.set_cons_zero, List.set_cons_succ])))
                  refine mix_nil ?_)
                | (
                  with_reducible refine wp_region_ext (by kernel_rfl) (by kernel_rfl) ?_
                  repeat (first | go_big_quiet_skip | (go_big_quiet_want; go_big_quiet_op; first | go_big_quiet_on | (apply Exists.intro; refine ⟨fun _ => ?_, ?_⟩; ((first | (go_at_call 83; first | exact quiet_call (ahead_c _ _ _) | exact quiet_call2 (ahead_c _ _ _)))); (try rw [h1]); (try rw [h2]); (try rw [h3]); (try rw [h4]); (try rw [p1]); (try rw [p2]); (try rw [p3]); (try rw [p4]); (try rw [r1]); (try rw [r2]); (try rw [r3]); (try rw [r4]); (try rw [r5]); (try rw [r6]); (try rw [q3]); (try rw [q4]); (try rw [hp]); (try rw [hq]); go_big_quiet_on)))
                  refine wpQuiet_nil ?_
                  rintro _ ⟨tq, rfl⟩))
            go_ret
            rw [show recL sn g xs = insAt xs k g from E.out]
            exact ⟨a4, c4, B4, rfl, zq0, HX4.out.of zq0, fun b hb => Nat.le_trans (by (try simp [go_sem]) <;> (try simp [Xt.add]) <;> omega) (HB4.out b hb)⟩
          · have E := hid (show recL sn g xs = xs by rw [HE0.out, if_pos hq, if_neg (by omega)])
            clear HE0
            try go_wp2_with (first
                | (go_at_call 83; refine (ahead_c _ _ _).mono ?_; rintro e w' ⟨rfl, t, rfl⟩) | (go_at_call 94; ((with_reducible refine (iCloneGst_x xs _ _ _ _ (HRb.out.of zq0) (by omega)).mono ?_); rintro e w' ⟨a4, c4, B4, rfl, ⟨t4, rfl⟩, hx4, hb4⟩; have HX4 := hid hx4; have HB4 := hid hb4; clear hx4 hb4))
                | (
                  with_reducible refine wp_region_mix (by kernel_rfl) (by decide +kernel) ?_
                  repeat (first
                    | (refine mix_pure rfl ?_; (first | go_big_quiet_skip | (go_big_quiet_want; go_big_quiet_op; go_big_quiet_on)); refine wpQuiet_nil ?_)
                    | (refine mix_skip (by rfl) ?_; (try simp only [Act.put, List.setIfInBounds_toArray, List.set_cons_zero, List.set_cons_succ]))
                    | (refine mix_mk rfl (by rfl) (fun K hK => ?_); (first | (go_simp; first | (go_at_call 83; refine (ahead_c _ _ _).mono ?_; rintro e w' ⟨rfl, t, rfl⟩) | (go_at_call 94; ((with_reducible refine (iCloneGst_x xs _ _ _ _ (HRb.out.of zq0) (by omega)).mono ?_); rintro e w' ⟨a4, c4, B4, rfl, ⟨t4, rfl⟩, hx4, hb4⟩; have HX4 := hid hx4; have HB4 := hid hb4; clear hx4 hb4)) | skip)); (show K _ _); refine hK _ _ (show Ext _ _ from zq0) ?_; clear hK K; (try simp only [Act.put, List.setIfInBounds_toArray, List.set_cons_zero, List.set_cons_succ])))
                  refine mix_nil ?_)
                | (
                  with_reducible refine wp_region_ext (by kernel_rfl) (by kernel_rfl) ?_
                  repeat (first | go_big_quiet_skip | (go_big_quiet_want; go_big_quiet_op; first | go_big_quiet_on | (apply Exists.intro; refine ⟨fun _ => ?_, ?_⟩; ((first | (go_at_call 83; first | exact quiet_call (ahead_c _ _ _) | exact quiet_call2 (ahead_c _ _ _)))); (try rw [h1]); (try rw [h2]); (try rw [h3]); (try rw [h4]); (try rw [p1]); (try rw [p2]); (try rw [p3]); (try rw [p4]); (try rw [r1]); (try rw [r2]); (try rw [r3]); (try rw [r4]); (try rw [r5]); (try rw [r6]); (try rw [q3]); (try rw [q4]); (try rw [hp]); (try rw [hq]); go_big_quiet_on)))
                  refine wpQuiet_nil ?_
                  rintro _ ⟨tq, rfl⟩))
            go_ret
            rw [show recL sn g xs = xs from E.out]
            exact ⟨a4, c4, B4, rfl, zq0, HX4.out.of zq0, fun b hb => Nat.le_trans (by (try simp [go_sem]) <;> (try simp [Xt.add]) <;> omega) (HB4.out b hb)⟩
        | false =>
          by_cases hc : x.count < g.count
          · have E := hid (show recL sn g xs = xs.set k g by rw [HE0.out, if_neg (by simp [hq]), zG, if_pos hc])
            clear HE0
            have hkx : k < xs.length := by have := HLn.out; omega
            obtain ⟨r1, r2⟩ := rowX_of (cells := Gst.cells) (k := 7) (fun _ => rfl) HG.out
            obtain ⟨u, cur, y, hu, hBu, hnn, hnc, hy, hb, hsz, hcell, hput⟩ := RowX.at (cells := Gst.cells) (k := 7) (by decide) (fun _ => rfl) r1 hkx
            obtain ⟨rfl, rfl⟩ : b1 = u ∧ o1 = 0 := by simpa using hu
            obtain rfl := Option.some.inj (hy.symm.trans HK.out)
            have hbu : w.heap.size + 1 ≤ b1 := r2 b1 (by rw [hBu]; simp)
            have HPUT := hid hput
            have HBL := hid hb
            have HSZ := hid hsz
            have z0 := frozen_blk hb (k * 7)
            have p0 : B0.cell? ⟨b1, k * 7, none⟩ = some (.int .i64 y.src) := (cell_blk hb _).trans (hcell 0 _ rfl)
            have z1 := frozen_blk hb (k * 7 + 1)
            have p1 : B0.cell? ⟨b1, k * 7 + 1, none⟩ = some (.int .i64 y.count) := (cell_blk hb _).trans (hcell 1 _ rfl)
            have z2 := frozen_blk hb (k * 7 + 2)
            have p2 : B0.cell? ⟨b1, k * 7 + 2, none⟩ = some (.int .i64 y.wk.id) := (cell_blk hb _).trans (hcell 2 _ rfl)
            have z3 := frozen_blk hb (k * 7 + 3)
            have p3 : B0.cell? ⟨b1, k * 7 + 3, none⟩ = some (.int .i64 y.wk.at_) := (cell_blk hb _).trans (hcell 3 _ rfl)
            have z4 := frozen_blk hb (k * 7 + 4)
            have p4 : B0.cell? ⟨b1, k * 7 + 4, none⟩ = some (.int .i64 y.wk.coins) := (cell_blk hb _).trans (hcell 4 _ rfl)
            have z5 := frozen_blk hb (k * 7 + 5)
            have p5 : B0.cell? ⟨b1, k * 7 + 5, none⟩ = some (.int .i64 y.wk.seq) := (cell_blk hb _).trans (hcell 5 _ rfl)
            have z6 := frozen_blk hb (k * 7 + 6)
            have p6 : B0.cell? ⟨b1, k * 7 + 6, none⟩ = some (.int .i64 y.wk.last) := (cell_blk hb _).trans (hcell 6 _ rfl)
            clear r1 r2 hu hBu hnn hnc hy hb hsz hcell hput f0 f1 f2 f3 f4 f5 f6
            try go_wp2_with (first
                | (go_at_call 83; refine (ahead_c _ _ _).mono ?_; rintro e w' ⟨rfl, t, rfl⟩)
                | (
                  with_reducible refine wp_region_mix (by kernel_rfl) (by decide +kernel) ?_
                  repeat (first
                    | (refine mix_pure rfl ?_; (first | go_big_quiet_skip | (go_big_quiet_want; go_big_quiet_op; go_big_quiet_on)); refine wpQuiet_nil ?_)
                    | (refine mix_skip (by rfl) ?_; (try simp only [Act.put, List.setIfInBounds_toArray, List.set_cons_zero, List.set_cons_succ]))
                    | (refine mix_mk rfl (by rfl) (fun K hK => ?_); (first | (go_simp; first | (go_at_call 83; refine (ahead_c _ _ _).mono ?_; rintro e w' ⟨rfl, t, rfl⟩) | skip)); (show K _ _); refine hK _ _ (show Ext _ _ from zq0) ?_; clear hK K; (try simp only [Act.put, List.setIfInBounds_toArray, List.set_cons_zero, List.set_cons_succ])))
                  refine mix_nil ?_)
                | (
                  with_reducible refine wp_region_ext (by kernel_rfl) (by kernel_rfl) ?_
                  repeat (first | go_big_quiet_skip | (go_big_quiet_want; go_big_quiet_op; first | go_big_quiet_on | (apply Exists.intro; refine ⟨fun _ => ?_, ?_⟩; ((first | (go_at_call 83; first | exact quiet_call (ahead_c _ _ _) | exact quiet_call2 (ahead_c _ _ _)))); (try rw [h1]); (try rw [h2]); (try rw [h3]); (try rw [h4]); (try rw [p1]); (try rw [p2]); (try rw [p3]); (try rw [p4]); (try rw [r1]); (try rw [r2]); (try rw [r3]); (try rw [r4]); (try rw [r5]); (try rw [r6]); (try rw [q3]); (try rw [q4]); (try rw [hp]); (try rw [hq]); go_big_quiet_on)))
                  refine wpQuiet_nil ?_
                  rintro _ ⟨tq, rfl⟩))
            refine calls_gen fun Y hY => ?_
            have hYb : Y.heap[b1]? = some (.cells (recArr cur k g) 71 (0, 0)) := by rw [hY]; unfold recArr; exact (by repeat (first | with_reducible exact HBL.out | with_reducible apply blk_drew | with_reducible refine blk_set ?_ | (with_reducible refine blk_other ?_ (by first | assumption | omega)) | with_reducible refine blk_ext ?_ | with_reducible refine blk_alloc ?_))
            have hch : Chg [b1] B0 Y := by rw [hY]; exact zq1
            have EY : Ext w Y := Ext.of_below (Below.chg (w0 := w) EB.below hch (by simp; omega))
            have hr := HPUT.out Y (recArr cur k g) g hYb (recArr_ok HSZ.out).1 (recArr_ok HSZ.out).2.1 (recArr_ok HSZ.out).2.2
            obtain ⟨ys, hys⟩ : ∃ ys, xs.set k g = ys := ⟨_, rfl⟩
            rw [hys] at hr
            have E2 := hid (E.out.trans hys)
            have hRe := (hr.own (k := 7) rfl (fun w x => own_Gst_mk w x)).re hr.lt
            clear hY hYb hch hr hys
            ((with_reducible refine (iCloneGst_x ys _ _ _ _ hRe (by omega)).mono ?_); rintro e w' ⟨a4, c4, B4, rfl, ⟨t4, rfl⟩, hx4, hb4⟩; have HX4 := hid hx4; have HB4 := hid hb4; clear hx4 hb4)
            try go_wp2_with (first
                | fail
                | (
                  with_reducible refine wp_region_mix (by kernel_rfl) (by decide +kernel) ?_
                  repeat (first
                    | (refine mix_pure rfl ?_; (first | go_big_quiet_skip | (go_big_quiet_want; go_big_quiet_op; go_big_quiet_on)); refine wpQuiet_nil ?_)
                    | (refine mix_skip (by rfl) ?_; (try simp only [Act.put, List.setIfInBounds_toArray, List.set_cons_zero, List.set_cons_succ]))
                    | (refine mix_mk rfl (by rfl) (fun K hK => ?_); (first | (go_simp; first | skip)); (show K _ _); refine hK _ _ (show Ext _ _ from zq0) ?_; clear hK K; (try simp only [Act.put, List.setIfInBounds_toArray, List.set_cons_zero, List.set_cons_succ])))
                  refine mix_nil ?_)
                | (
                  with_reducible refine wp_region_ext (by kernel_rfl) (by kernel_rfl) ?_
                  repeat (first | go_big_quiet_skip | (go_big_quiet_want; go_big_quiet_op; first | go_big_quiet_on | (apply Exists.intro; refine ⟨fun _ => ?_, ?_⟩; (fail); (try rw [h1]); (try rw [h2]); (try rw [h3]); (try rw [h4]); (try rw [p1]); (try rw [p2]); (try rw [p3]); (try rw [p4]); (try rw [r1]); (try rw [r2]); (try rw [r3]); (try rw [r4]); (try rw [r5]); (try rw [r6]); (try rw [q3]); (try rw [q4]); (try rw [hp]); (try rw [hq]); go_big_quiet_on)))
                  refine wpQuiet_nil ?_
                  rintro _ ⟨tq, rfl⟩))
            go_ret
            rw [show recL sn g xs = ys from E2.out]
            exact ⟨a4, c4, B4, rfl, zq0, HX4.out.of zq0, fun b hb => Nat.le_trans (Nat.le_trans EY.size (by (try simp [go_sem]) <;> (try simp [Xt.add]) <;> omega)) (HB4.out b hb)⟩
          · have E := hid (show recL sn g xs = xs by rw [HE0.out, if_neg (by simp [hq]), zG, if_neg hc, set_self HK.out])
            clear HE0
            try go_wp2_with (first
                | (go_at_call 83; refine (ahead_c _ _ _).mono ?_; rintro e w' ⟨rfl, t, rfl⟩) | (go_at_call 94; ((with_reducible refine (iCloneGst_x xs _ _ _ _ (HRb.out.of zq0) (by omega)).mono ?_); rintro e w' ⟨a4, c4, B4, rfl, ⟨t4, rfl⟩, hx4, hb4⟩; have HX4 := hid hx4; have HB4 := hid hb4; clear hx4 hb4))
                | (
                  with_reducible refine wp_region_mix (by kernel_rfl) (by decide +kernel) ?_
                  repeat (first
                    | (refine mix_pure rfl ?_; (first | go_big_quiet_skip | (go_big_quiet_want; go_big_quiet_op; go_big_quiet_on)); refine wpQuiet_nil ?_)
                    | (refine mix_skip (by rfl) ?_; (try simp only [Act.put, List.setIfInBounds_toArray, List.set_cons_zero, List.set_cons_succ]))
                    | (refine mix_mk rfl (by rfl) (fun K hK => ?_); (first | (go_simp; first | (go_at_call 83; refine (ahead_c _ _ _).mono ?_; rintro e w' ⟨rfl, t, rfl⟩) | (go_at_call 94; ((with_reducible refine (iCloneGst_x xs _ _ _ _ (HRb.out.of zq0) (by omega)).mono ?_); rintro e w' ⟨a4, c4, B4, rfl, ⟨t4, rfl⟩, hx4, hb4⟩; have HX4 := hid hx4; have HB4 := hid hb4; clear hx4 hb4)) | skip)); (show K _ _); refine hK _ _ (show Ext _ _ from zq0) ?_; clear hK K; (try simp only [Act.put, List.setIfInBounds_toArray, List.set_cons_zero, List.set_cons_succ])))
                  refine mix_nil ?_)
                | (
                  with_reducible refine wp_region_ext (by kernel_rfl) (by kernel_rfl) ?_
                  repeat (first | go_big_quiet_skip | (go_big_quiet_want; go_big_quiet_op; first | go_big_quiet_on | (apply Exists.intro; refine ⟨fun _ => ?_, ?_⟩; ((first | (go_at_call 83; first | exact quiet_call (ahead_c _ _ _) | exact quiet_call2 (ahead_c _ _ _)))); (try rw [h1]); (try rw [h2]); (try rw [h3]); (try rw [h4]); (try rw [p1]); (try rw [p2]); (try rw [p3]); (try rw [p4]); (try rw [r1]); (try rw [r2]); (try rw [r3]); (try rw [r4]); (try rw [r5]); (try rw [r6]); (try rw [q3]); (try rw [q4]); (try rw [hp]); (try rw [hq]); go_big_quiet_on)))
                  refine wpQuiet_nil ?_
                  rintro _ ⟨tq, rfl⟩))
            go_ret
            rw [show recL sn g xs = xs from E.out]
            exact ⟨a4, c4, B4, rfl, zq0, HX4.out.of zq0, fun b hb => Nat.le_trans (by (try simp [go_sem]) <;> (try simp [Xt.add]) <;> omega) (HB4.out b hb)⟩
    · have hke : k = sn := by omega
      subst hke
      have HE0 := hid (recL_none (n := k) (g := g) (notAh_all (take_end HA.out (by have := HLn.out; omega))))
      by_cases h20 : (k : Int) < 20
      · have E := hid (show recL k g xs = insAt xs k g by rw [HE0.out, if_pos (by omega), show k = xs.length from HLn.out, insAt_end])
        have hkl : k ≤ xs.length := by have := HLn.out; omega
        clear HE0
        try go_wp2_with (first
            | (go_at_call 95; ((refine (insGst_c xs g _ k _ _ (w.heap.size + 1) _ (ownsRow_of HG.out zq0) (by (try simp [go_sem]) <;> (try simp [Xt.add]) <;> omega) hkl (by exact alloc_last (by (try simp [go_sem]) <;> (try simp [Xt.add]) <;> omega)) (fun g hg => Nat.ne_of_gt (Nat.lt_of_lt_of_le (HG.out.lt g hg).2 (by (try simp [go_sem]) <;> (try simp [Xt.add]) <;> omega))) (by have := HLn.out; omega)).mono ?_); rintro e w' ⟨v2, rfl, hrow2, hch⟩; obtain ⟨t3, rfl⟩ : Ext w w' := Ext.of_below (Below.chg (w0 := w) (Ext.below zq0) hch (fun g hg => Nat.le_trans (Nat.le_succ _) (HG.out.lt g (by simpa using hg)).1)); obtain ⟨ra, rn, rc, rfl⟩ := row_slice hrow2; obtain ⟨hrn, hre2⟩ := row_reG (by rw [insAt_len _ _ _ hkl]; have := HLn.out; omega) hrow2; have HR2 := hid hre2; have hrm : rn ≤ 2097152 := (by rw [hrn, insAt_len _ _ _ hkl]; have := HLn.out; omega); clear hrow2 hre2 hch hrn)) | (go_at_call 94; ((with_reducible refine (iCloneGst_x (insAt xs k g) _ _ _ _ (HR2.out.of zq0) hrm).mono ?_); rintro e w' ⟨a4, c4, B4, rfl, ⟨t4, rfl⟩, hx4, hb4⟩; have HX4 := hid hx4; have HB4 := hid hb4; clear hx4 hb4))
            | (
              with_reducible refine wp_region_mix (by kernel_rfl) (by decide +kernel) ?_
              repeat (first
                | (refine mix_pure rfl ?_; (first | go_big_quiet_skip | (go_big_quiet_want; go_big_quiet_op; go_big_quiet_on)); refine wpQuiet_nil ?_)
                | (refine mix_skip (by rfl) ?_; (try simp only [Act.put, List.setIfInBounds_toArray, List.set_cons_zero, List.set_cons_succ]))
                | (refine mix_mk rfl (by rfl) (fun K hK => ?_); (first | (go_simp; first | (go_at_call 95; ((refine (insGst_c xs g _ k _ _ (w.heap.size + 1) _ (ownsRow_of HG.out zq0) (by (try simp [go_sem]) <;> (try simp [Xt.add]) <;> omega) hkl (by exact alloc_last (by (try simp [go_sem]) <;> (try simp [Xt.add]) <;> omega)) (fun g hg => Nat.ne_of_gt (Nat.lt_of_lt_of_le (HG.out.lt g hg).2 (by (try simp [go_sem]) <;> (try simp [Xt.add]) <;> omega))) (by have := HLn.out; omega)).mono ?_); rintro e w' ⟨v2, rfl, hrow2, hch⟩; obtain ⟨t3, rfl⟩ : Ext w w' := Ext.of_below (Below.chg (w0 := w) (Ext.below zq0) hch (fun g hg => Nat.le_trans (Nat.le_succ _) (HG.out.lt g (by simpa using hg)).1)); obtain ⟨ra, rn, rc, rfl⟩ := row_slice hrow2; obtain ⟨hrn, hre2⟩ := row_reG (by rw [insAt_len _ _ _ hkl]; have := HLn.out; omega) hrow2; have HR2 := hid hre2; have hrm : rn ≤ 2097152 := (by rw [hrn, insAt_len _ _ _ hkl]; have := HLn.out; omega); clear hrow2 hre2 hch hrn)) | (go_at_call 94; ((with_reducible refine (iCloneGst_x (insAt xs k g) _ _ _ _ (HR2.out.of zq0) hrm).mono ?_); rintro e w' ⟨a4, c4, B4, rfl, ⟨t4, rfl⟩, hx4, hb4⟩; have HX4 := hid hx4; have HB4 := hid hb4; clear hx4 hb4)) | skip)); (show K _ _); refine hK _ _ (show Ext _ _ from zq0) ?_; clear hK K; (try simp only [Act.put, List.setIfInBounds_toArray, List.set_cons_zero, List.set_cons_succ])))
              refine mix_nil ?_)
            | (
              with_reducible refine wp_region_ext (by kernel_rfl) (by kernel_rfl) ?_
              repeat (first | go_big_quiet_skip | (go_big_quiet_want; go_big_quiet_op; first | go_big_quiet_on | (apply Exists.intro; refine ⟨fun _ => ?_, ?_⟩; (fail); (try rw [h1]); (try rw [h2]); (try rw [h3]); (try rw [h4]); (try rw [p1]); (try rw [p2]); (try rw [p3]); (try rw [p4]); (try rw [r1]); (try rw [r2]); (try rw [r3]); (try rw [r4]); (try rw [r5]); (try rw [r6]); (try rw [q3]); (try rw [q4]); (try rw [hp]); (try rw [hq]); go_big_quiet_on)))
              refine wpQuiet_nil ?_
              rintro _ ⟨tq, rfl⟩))
        go_ret
        rw [show recL k g xs = insAt xs k g from E.out]
        exact ⟨a4, c4, B4, rfl, zq0, HX4.out.of zq0, fun b hb => Nat.le_trans (by (try simp [go_sem]) <;> (try simp [Xt.add]) <;> omega) (HB4.out b hb)⟩
      · have E := hid (show recL k g xs = xs by rw [HE0.out, if_neg (by omega)])
        clear HE0
        try go_wp2_with (first
            | (go_at_call 94; ((with_reducible refine (iCloneGst_x xs _ _ _ _ (HRb.out.of zq0) (by omega)).mono ?_); rintro e w' ⟨a4, c4, B4, rfl, ⟨t4, rfl⟩, hx4, hb4⟩; have HX4 := hid hx4; have HB4 := hid hb4; clear hx4 hb4))
            | (
              with_reducible refine wp_region_mix (by kernel_rfl) (by decide +kernel) ?_
              repeat (first
                | (refine mix_pure rfl ?_; (first | go_big_quiet_skip | (go_big_quiet_want; go_big_quiet_op; go_big_quiet_on)); refine wpQuiet_nil ?_)
                | (refine mix_skip (by rfl) ?_; (try simp only [Act.put, List.setIfInBounds_toArray, List.set_cons_zero, List.set_cons_succ]))
                | (refine mix_mk rfl (by rfl) (fun K hK => ?_); (first | (go_simp; first | (go_at_call 94; ((with_reducible refine (iCloneGst_x xs _ _ _ _ (HRb.out.of zq0) (by omega)).mono ?_); rintro e w' ⟨a4, c4, B4, rfl, ⟨t4, rfl⟩, hx4, hb4⟩; have HX4 := hid hx4; have HB4 := hid hb4; clear hx4 hb4)) | skip)); (show K _ _); refine hK _ _ (show Ext _ _ from zq0) ?_; clear hK K; (try simp only [Act.put, List.setIfInBounds_toArray, List.set_cons_zero, List.set_cons_succ])))
              refine mix_nil ?_)
            | (
              with_reducible refine wp_region_ext (by kernel_rfl) (by kernel_rfl) ?_
              repeat (first | go_big_quiet_skip | (go_big_quiet_want; go_big_quiet_op; first | go_big_quiet_on | (apply Exists.intro; refine ⟨fun _ => ?_, ?_⟩; (fail); (try rw [h1]); (try rw [h2]); (try rw [h3]); (try rw [h4]); (try rw [p1]); (try rw [p2]); (try rw [p3]); (try rw [p4]); (try rw [r1]); (try rw [r2]); (try rw [r3]); (try rw [r4]); (try rw [r5]); (try rw [r6]); (try rw [q3]); (try rw [q4]); (try rw [hp]); (try rw [hq]); go_big_quiet_on)))
              refine wpQuiet_nil ?_
              rintro _ ⟨tq, rfl⟩))
        go_ret
        rw [show recL k g xs = xs from E.out]
        exact ⟨a4, c4, B4, rfl, zq0, HX4.out.of zq0, fun b hb => Nat.le_trans (by (try simp [go_sem]) <;> (try simp [Xt.add]) <;> omega) (HB4.out b hb)⟩
theorem gstOk_plc {m : Mp} {g : Gst} (h : plcOk m = false) : gstOk m g = false := by
  have : wlkOk m g.wk = false := by simp [wlkOk, plcCell_bad _ h]
  simp [gstOk, this]
theorem gstPutV_len2 (m : Mp) (xs : List Gst) (g : Gst) : (gstPutV m xs g).length ≤ 21 := by
  unfold gstPutV; split
  · rename_i h
    simp only [Bool.and_eq_true, decide_eq_true_eq] at h
    have := recL_len xs.length g xs; omega
  · simp
set_option maxRecDepth 100000 in
set_option maxHeartbeats 4000000 in
theorem iGstPut_c (m : Mp) (xs : List Gst) (g : Gst) (a : Option Addr) (n c : Nat) (w : World) (hx : Re w (.sl sGst) [.slice a n c] (.l (xs.map Gst.dat))) (hn : n ≤ 1048576) :
    Calls Try.prog 48 #[.agg #[.int .i64 m.c, .int .i64 m.w], .slice a n c, .agg #[.int .i64 g.src, .int .i64 g.count, .int .i64 g.wk.id, .int .i64 g.wk.at_, .int .i64 g.wk.coins, .int .i64 g.wk.seq, .int .i64 g.wk.last]] w (MadeX w 71 7 Gst.cells (gstPutV m xs g)) := by
  have HX := hid hx
  have HLn := hid (show n = xs.length from hx.len)
  clear hx
  have h9 := hid (show decide ((n : Int) ≤ 20) = decide (xs.length ≤ 20) by have := HLn.out; by_cases h : xs.length ≤ 20 <;> simp [h] <;> omega)
  cases q1 : (gstAll m xs && (plcOk m && decide ((n : Int) ≤ 20))) with
  | false =>
    have HQ := hid q1
    have E := hid (show gstPutV m xs g = [] by
      have h8 := HQ.out
      rw [h9.out] at h8
      unfold gstPutV
      rw [if_neg]
      intro h
      cases hp : plcOk m with
      | false => rw [gstOk_plc hp] at h; simp at h
      | true => rw [hp, Bool.true_and] at h8; rw [h8] at h; simp at h)
    clear q1
    go_enter Try.func48, Try.ntmps48
    go_wp2_with (first | (go_at_call 53; (with_reducible refine (iGstListOk_g m xs _ _ _ false _ (HX.out.of zq0) (by omega) HQ.out).mono ?_); rintro e w' ⟨rfl, t, rfl⟩))
    go_ret
    rw [E.out]
    exact ⟨_, _, [], rfl, zq0, .inl ⟨rfl, rfl, _, rfl, .inl rfl⟩, by simp⟩
  | true =>
    have HQ := hid q1
    clear q1
    cases q2 : gstOk m g with
    | false =>
      have E := hid (show gstPutV m xs g = [] by unfold gstPutV; rw [if_neg]; simp [q2])
      go_enter Try.func48, Try.ntmps48
      go_wp2_with (first | (go_at_call 53; (with_reducible refine (iGstListOk_g m xs _ _ _ true _ (HX.out.of zq0) (by omega) HQ.out).mono ?_); rintro e w' ⟨rfl, t, rfl⟩) | (go_at_call 80; (with_reducible refine (iGstOk_c m g _).mono ?_); rintro e w' ⟨rfl, t2, rfl⟩))
      go_ret
      rw [E.out]
      exact ⟨_, _, [], rfl, zq0, .inl ⟨rfl, rfl, _, rfl, .inl rfl⟩, by simp⟩
    | true =>
      have E := hid (show recL n g xs = gstPutV m xs g by
        have h8 := HQ.out
        rw [h9.out] at h8
        simp only [Bool.and_eq_true] at h8
        rw [gstPutV, if_pos (by rw [h8.1, h8.2.2, q2]; rfl), HLn.out])
      obtain ⟨v, hv⟩ : ∃ v, gstPutV m xs g = v := ⟨_, rfl⟩
      rw [hv] at E ⊢
      have HC := hid (fun (a : Option Addr) (c : Nat) (w : World) (hr : Re w (.sl sGst) [.slice a n c] (.l (xs.map Gst.dat))) => (show Calls Try.prog 81 #[.slice a n c, .agg #[.int .i64 g.src, .int .i64 g.count, .int .i64 g.wk.id, .int .i64 g.wk.at_, .int .i64 g.wk.coins, .int .i64 g.wk.seq, .int .i64 g.wk.last]] w (MadeX w 71 7 Gst.cells v) from E.out ▸ record_c xs g a n c w hr hn))
      clear hv
      go_enter Try.func48, Try.ntmps48
      go_wp2_with (first | (go_at_call 53; (with_reducible refine (iGstListOk_g m xs _ _ _ true _ (HX.out.of zq0) (by omega) HQ.out).mono ?_); rintro e w' ⟨rfl, t, rfl⟩) | (go_at_call 80; (with_reducible refine (iGstOk_c m g _).mono ?_); rintro e w' ⟨rfl, t2, rfl⟩) | (go_at_call 81; (with_reducible refine (HC.out _ _ _ (HX.out.of zq0)).mono ?_); rintro e w' ⟨a4, c4, B4, rfl, ⟨t4, rfl⟩, hx4, hb4⟩; have HX4 := hid hx4; have HB4 := hid hb4; clear hx4 hb4))
      go_ret
      exact ⟨a4, c4, B4, rfl, zq0, HX4.out.of zq0, fun b hb => Nat.le_trans (by (try simp [go_sem]) <;> (try simp [Xt.add]) <;> omega) (HB4.out b hb)⟩
theorem iGstPut_m (m : Mp) (xs : List Gst) (g : Gst) (a : Option Addr) (n c : Nat) (w : World) (hx : Re w (.sl sGst) [.slice a n c] (.l (xs.map Gst.dat))) (hn : n ≤ 1048576) :
    Calls Try.prog 48 #[.agg #[.int .i64 m.c, .int .i64 m.w], .slice a n c, .agg #[.int .i64 g.src, .int .i64 g.count, .int .i64 g.wk.id, .int .i64 g.wk.at_, .int .i64 g.wk.coins, .int .i64 g.wk.seq, .int .i64 g.wk.last]] w (MadeL w sGst (gstPutV m xs g).length ((gstPutV m xs g).map Gst.dat)) := (iGstPut_c m xs g a n c w hx hn).mono fun _ _ h => MadeX.made rfl (fun w x => own_Gst_mk w x) h
theorem sGstPut_m (m : Mp) (xs : List Gst) (g : Gst) (a : Option Addr) (n c : Nat) (w : World) (hx : Re w (.sl sGst) [.slice a n c] (.l (xs.map Gst.dat))) (hn : n ≤ 1048576) :
    Calls Try.prog 50 #[.agg #[.int .i64 m.c, .int .i64 m.w], .slice a n c, .agg #[.int .i64 g.src, .int .i64 g.count, .int .i64 g.wk.id, .int .i64 g.wk.at_, .int .i64 g.wk.coins, .int .i64 g.wk.seq, .int .i64 g.wk.last]] w (MadeL w sGst (gstPutV m xs g).length ((gstPutV m xs g).map Gst.dat)) := (sGstPut_c m xs g a n c w hx hn).mono fun _ _ h => MadeX.made rfl (fun w x => own_Gst_mk w x) h
end Go.Proofs.Ytbbpipbemhggdaa

namespace Go.Proofs.Ytbbpipbemhggdaa
open Go.RowKit
set_option linter.unusedSimpArgs false
set_option linter.unusedVariables false

theorem RowX.chgT {α : Type} {w w' : World} {T : TypeId} {k n : Nat} {cells : α → List Value} {v : Value} {xs : List α} {B L : List Nat} {TO : Obj → Prop} (h : RowX w T k cells v xs B) (hc : ChgT n L TO w w') (hn : w.heap.size = n) (hB : ∀ b ∈ B, b ∉ L) : RowX w' T k cells v xs B :=
  h.same fun b hb => hc.old b (by have := h.lt b hb; omega) (h.lt b hb) (hB b hb)
/-- A list of ghosts in memory of its own, made behind b0. -/
def LstG (b0 : Nat) (w : World) (v : Value) (xs : List Gst) : Prop := ∃ B, RowX w 71 7 Gst.cells v xs B ∧ (∀ b ∈ B, b0 ≤ b)
theorem LstG.chg {b0 : Nat} {w w' : World} {v : Value} {xs : List Gst} {B' : List Nat} (h : LstG b0 w v xs) (hc : Chg B' w w') (hB' : ∀ b ∈ B', b < b0) : LstG b0 w' v xs := by
  obtain ⟨B, h2, h3⟩ := h
  exact ⟨B, h2.chg hc (fun b hb hm => by have := h3 b hb; have := hB' b hm; omega), h3⟩
theorem LstG.of {b0 : Nat} {w w' : World} {v : Value} {xs : List Gst} (h : LstG b0 w v xs) (hE : Ext w w') : LstG b0 w' v xs := h.chg (Chg.of_ext hE []) (by simp)
theorem rowG_re {w : World} {v : Value} {xs : List Gst} {B : List Nat} (h : RowX w 71 7 Gst.cells v xs B) : Re w (.sl sGst) [v] (.l (xs.map Gst.dat)) := (h.own (k := 7) rfl (fun w x => own_Gst_mk w x)).re h.lt
theorem sGstPut_e (m : Mp) (xs : List Gst) (g : Gst) (a : Option Addr) (n c : Nat) (w : World) (hx : Re w (.sl sGst) [.slice a n c] (.l (xs.map Gst.dat))) (hn : n ≤ 1048576) :
    Calls Try.prog 50 #[.agg #[.int .i64 m.c, .int .i64 m.w], .slice a n c, .agg #[.int .i64 g.src, .int .i64 g.count, .int .i64 g.wk.id, .int .i64 g.wk.at_, .int .i64 g.wk.coins, .int .i64 g.wk.seq, .int .i64 g.wk.last]] w fun e w' => ∃ (ys : List Gst) (a : Option Addr) (c : Nat) (B : List Nat), e = .returned (.slice a ys.length c) ∧ ys.length ≤ 21 ∧ Ext w w' ∧ RowX w' 71 7 Gst.cells (.slice a ys.length c) ys B ∧ ∀ b ∈ B, w.heap.size ≤ b :=
  (sGstPut_c m xs g a n c w hx hn).mono fun _ _ ⟨a, c, B, h1, h2, h3, h4⟩ => ⟨_, a, c, B, h1, gstPutV_len2 m xs g, h2, h3, h4⟩
/-- A list that was drawn or put. -/
def LgC (b0 : Nat) (v : Value) (w : World) : Prop := ∃ u : Value, v = u ∧ ∃ xs, LstG b0 w u xs ∧ xs.length ≤ 21
theorem LgC.chgT {b0 : Nat} {v : Value} {w w' : World} {L : List Nat} (h : LgC b0 v w) (hc : ChgT b0 L (fun _ => False) w w') : LgC b0 v w' := by
  obtain ⟨u, h1, xs, ⟨B, h2, h3⟩, h4⟩ := h
  refine ⟨u, h1, xs, ⟨B, h2.same fun b hb => ?_, h3⟩, h4⟩
  rcases hc.new b (h3 b hb) (h2.lt b hb) with h | ⟨_, _, _, _, h, _⟩
  · exact h
  · exact h.elim
set_option maxRecDepth 100000 in
set_option maxHeartbeats 8000000 in
theorem l21Ghosts_c (lo p Q : Nat) (n : Int) (w : World) (h : Rdr lo p Q w) (hQ : Q ≤ 60000) (n1 : 1 ≤ n) (n2 : n ≤ 1000) :
    Calls Try.prog 78 #[.pointer (some ⟨p, 0, none⟩), .int .i64 n] w fun e w' => ∃ (m : Mp) (v : Value) (xs : List Gst), e = .returned (.tuple #[.agg #[.int .i64 m.c, .int .i64 m.w], v]) ∧ MapIn m ∧ LstG w.heap.size w' v xs ∧ xs.length ≤ 22 ∧ Rdr lo p (Q + 9000) w' ∧ Chg [p] w w' := by
  have lP := h.lt
  have hlo := h.lo
  have HR := hid h
  clear h
  go_enter Try.func78, Try.ntmps78
  try go_wp2_with (first
      | fail
      | (
        with_reducible refine wp_region_mix (by kernel_rfl) (by decide +kernel) ?_
        repeat (first
          | (refine mix_pure rfl ?_; (first | go_big_quiet_skip | (go_big_quiet_want; go_big_quiet_op; go_big_quiet_on)); refine wpQuiet_nil ?_)
          | (refine mix_skip (by rfl) ?_; (try simp only [Act.put, List.setIfInBounds_toArray, List.set_cons_zero, List.set_cons_succ]))
          | (refine mix_mk rfl (by rfl) (fun K hK => ?_); (first | (go_simp; first | skip)); (show K _ _); refine hK _ _ (show Ext _ _ from zq0) ?_; clear hK K; (try simp only [Act.put, List.setIfInBounds_toArray, List.set_cons_zero, List.set_cons_succ])))
        refine mix_nil ?_)
      | (
        with_reducible refine wp_region_ext (by kernel_rfl) (by kernel_rfl) ?_
        repeat (first | go_big_quiet_skip | (go_big_quiet_want; go_big_quiet_op; first | go_big_quiet_on | (apply Exists.intro; refine ⟨fun _ => ?_, ?_⟩; (fail); (try rw [h1]); (try rw [h2]); (try rw [h3]); (try rw [h4]); (try rw [p1]); (try rw [p2]); (try rw [p3]); (try rw [p4]); (try rw [r1]); (try rw [r2]); (try rw [r3]); (try rw [r4]); (try rw [r5]); (try rw [r6]); (try rw [q3]); (try rw [q4]); (try rw [hp]); (try rw [hq]); go_big_quiet_on)))
        refine wpQuiet_nil ?_
        rintro _ ⟨tq, rfl⟩))
  refine calls_gen fun X hX => ?_
  obtain ⟨R, hRe⟩ : ∃ R, w.heap.size = R := ⟨_, rfl⟩
  have EX : Ext w X := by rw [hX]; ((try simp only [ext_drew]); (try simp only [ext_ext]); repeat (first | exact Ext.refl _ | with_reducible apply Ext.add | with_reducible apply Ext.dr | apply Ext.alloc | apply Ext.ext | apply Ext.drew | refine Ext.trans ?_ (by assumption)))
  have bR : X.heap[R]? = some (oMp ⟨0, 0⟩) := by rw [hX, ← hRe]; exact zq3
  have hRp : R ≠ p := by omega
  have hwR : w.heap.size ≤ R := by omega
  have HRX := hid (HR.out.of EX)
  have HCX := hid (Chg.of_ext EX [p])
  rw [hRe]
  clear hX EX HR
  refine (pick_c lo p _ 3 X HRX.out (by omega) (by omega) (by omega)).mono ?_
  rintro e Y ⟨v1, rfl, hv0, hv1, hRY, hCY⟩
  have bRY := (hCY.block R (lt_blk bR) (by simpa using hRp)).trans bR
  have HRY := hid hRY
  have HCY := hid (HCX.out.trans hCY)
  clear bR hRY hCY HRX HCX
  try go_wp2_with (first
      | fail
      | (
        with_reducible refine wp_region_mix (by kernel_rfl) (by decide +kernel) ?_
        repeat (first
          | (refine mix_pure rfl ?_; (first | go_big_quiet_skip | (go_big_quiet_want; go_big_quiet_op; go_big_quiet_on)); refine wpQuiet_nil ?_)
          | (refine mix_skip (by rfl) ?_; (try simp only [Act.put, List.setIfInBounds_toArray, List.set_cons_zero, List.set_cons_succ]))
          | (refine mix_mk rfl (by rfl) (fun K hK => ?_); (first | (go_simp; first | skip)); (show K _ _); refine hK _ _ (show Ext _ _ from zq0) ?_; clear hK K; (try simp only [Act.put, List.setIfInBounds_toArray, List.set_cons_zero, List.set_cons_succ])))
        refine mix_nil ?_)
      | (
        with_reducible refine wp_region_ext (by kernel_rfl) (by kernel_rfl) ?_
        repeat (first | go_big_quiet_skip | (go_big_quiet_want; go_big_quiet_op; first | go_big_quiet_on | (apply Exists.intro; refine ⟨fun _ => ?_, ?_⟩; (fail); (try rw [h1]); (try rw [h2]); (try rw [h3]); (try rw [h4]); (try rw [p1]); (try rw [p2]); (try rw [p3]); (try rw [p4]); (try rw [r1]); (try rw [r2]); (try rw [r3]); (try rw [r4]); (try rw [r5]); (try rw [r6]); (try rw [q3]); (try rw [q4]); (try rw [hp]); (try rw [hq]); go_big_quiet_on)))
        refine wpQuiet_nil ?_
        rintro _ ⟨tq, rfl⟩))
  refine calls_gen fun X hX => ?_
  have EX : Ext Y X := by rw [hX]; ((try simp only [ext_drew]); (try simp only [ext_ext]); repeat (first | exact Ext.refl _ | with_reducible apply Ext.add | with_reducible apply Ext.dr | apply Ext.alloc | apply Ext.ext | apply Ext.drew | refine Ext.trans ?_ (by assumption)))
  have bR := (EX.block (lt_blk bRY)).trans bRY
  have HRX := hid (HRY.out.of EX)
  have HCX := hid (HCY.out.trans (Chg.of_ext EX [p]))
  clear hX EX HRY HCY bRY
  refine (pick_c lo p _ 2 X HRX.out (by omega) (by omega) (by omega)).mono ?_
  rintro e Y ⟨v2, rfl, hv2, hv3, hRY, hCY⟩
  have bRY := (hCY.block R (lt_blk bR) (by simpa using hRp)).trans bR
  have HRY := hid hRY
  have HCY := hid (HCX.out.trans hCY)
  have lRY := lt_blk bRY
  clear bR hRY hCY HRX HCX
  try go_wp2_with (first
      | fail
      | (
        with_reducible refine wp_region_mix (by kernel_rfl) (by decide +kernel) ?_
        repeat (first
          | (refine mix_pure rfl ?_; (first | go_big_quiet_skip | (go_big_quiet_want; go_big_quiet_op; go_big_quiet_on)); refine wpQuiet_nil ?_)
          | (refine mix_skip (by rfl) ?_; (try simp only [Act.put, List.setIfInBounds_toArray, List.set_cons_zero, List.set_cons_succ]))
          | (refine mix_mk rfl (by rfl) (fun K hK => ?_); (first | (go_simp; first | skip)); (show K _ _); refine hK _ _ (show Ext _ _ from zq0) ?_; clear hK K; (try simp only [Act.put, List.setIfInBounds_toArray, List.set_cons_zero, List.set_cons_succ])))
        refine mix_nil ?_)
      | (
        with_reducible refine wp_region_ext (by kernel_rfl) (by kernel_rfl) ?_
        repeat (first | go_big_quiet_skip | (go_big_quiet_want; go_big_quiet_op; first | go_big_quiet_on | (apply Exists.intro; refine ⟨fun _ => ?_, ?_⟩; (fail); (try rw [h1]); (try rw [h2]); (try rw [h3]); (try rw [h4]); (try rw [p1]); (try rw [p2]); (try rw [p3]); (try rw [p4]); (try rw [r1]); (try rw [r2]); (try rw [r3]); (try rw [r4]); (try rw [r5]); (try rw [r6]); (try rw [q3]); (try rw [q4]); (try rw [hp]); (try rw [hq]); go_big_quiet_on)))
        refine wpQuiet_nil ?_
        rintro _ ⟨tq, rfl⟩))
  refine calls_gen fun X hX => ?_
  obtain ⟨M, hMe⟩ : ∃ M, Y.heap.size = M := ⟨_, rfl⟩
  obtain ⟨m, hm0, hm1⟩ : ∃ m : Mp, m = ⟨2 + v1, 2 + v2⟩ ∧ MapIn m := ⟨_, rfl, by simp only [MapIn]; omega⟩
  have EX : Ext Y X := by rw [hX]; ((try simp only [ext_drew]); (try simp only [ext_ext]); repeat (first | exact Ext.refl _ | with_reducible apply Ext.add | with_reducible apply Ext.dr | apply Ext.alloc | apply Ext.ext | apply Ext.drew | refine Ext.trans ?_ (by assumption)))
  have bM : X.heap[M]? = some (oMp m) := by rw [hX, ← hMe, hm0]; exact zq3
  have bR := (EX.block lRY).trans bRY
  rw [hMe]
  have hMR : M ≠ R := by omega
  have hRM : R ≠ M := by omega
  have lpY := HRY.out.lt
  have hMp : M ≠ p := by omega
  have hwM : w.heap.size ≤ M := by have := HCY.out.size; omega
  have HM := hid hm1
  have hmc : 2 ≤ m.c ∧ m.c ≤ 4 ∧ 2 ≤ m.w ∧ m.w ≤ 4 := by rw [hm0]; dsimp only; omega
  have HRX := hid (HRY.out.of EX)
  have HCX := hid (HCY.out.trans (Chg.of_ext EX [p]))
  obtain ⟨E, hE⟩ : ∃ E, M + 1 = E := ⟨_, rfl⟩
  rw [hE]
  clear hX EX HRY HCY bRY lRY lpY hMe hm1 hE hm0
  refine (pick_c lo p _ 8 X HRX.out (by omega) (by omega) (by omega)).mono ?_
  rintro e Y ⟨v, rfl, hv4, hv5, hRY, hCY⟩
  obtain ⟨k0, rfl⟩ : ∃ i : Nat, v = (i : Int) := ⟨v.toNat, by omega⟩
  have hk0 : k0 ≤ 7 := by omega
  have bRY := (hCY.block R (lt_blk bR) (by simpa using hRp)).trans bR
  have bMY := (hCY.block M (lt_blk bM) (by simpa using hMp)).trans bM
  have HRY := hid hRY
  have HCY := hid (HCX.out.trans hCY)
  have HHY := hid (show Held [(M, fun o => o = oMp m), (R, fun o => o = oMp ⟨0, 0⟩)] Y from Held.cons bMY rfl (Held.cons bRY rfl Held.nil))
  have hpM : p < M := by omega
  have hpR : p < R := by omega
  clear bR bM bRY bMY hRY hCY HRX HCX hv4 hv5
  try go_wp2_with (first
      | fail
      | (
        with_reducible refine wp_region_mix (by kernel_rfl) (by decide +kernel) ?_
        repeat (first
          | (refine mix_pure rfl ?_; (first | go_big_quiet_skip | (go_big_quiet_want; go_big_quiet_op; go_big_quiet_on)); refine wpQuiet_nil ?_)
          | (refine mix_skip (by rfl) ?_; (try simp only [Act.put, List.setIfInBounds_toArray, List.set_cons_zero, List.set_cons_succ]))
          | (refine mix_mk rfl (by rfl) (fun K hK => ?_); (first | (go_simp; first | skip)); (show K _ _); refine hK _ _ (show Ext _ _ from zq0) ?_; clear hK K; (try simp only [Act.put, List.setIfInBounds_toArray, List.set_cons_zero, List.set_cons_succ])))
        refine mix_nil ?_)
      | (
        with_reducible refine wp_region_ext (by kernel_rfl) (by kernel_rfl) ?_
        repeat (first | go_big_quiet_skip | (go_big_quiet_want; go_big_quiet_op; first | go_big_quiet_on | (apply Exists.intro; refine ⟨fun _ => ?_, ?_⟩; (fail); (try rw [h1]); (try rw [h2]); (try rw [h3]); (try rw [h4]); (try rw [p1]); (try rw [p2]); (try rw [p3]); (try rw [p4]); (try rw [r1]); (try rw [r2]); (try rw [r3]); (try rw [r4]); (try rw [r5]); (try rw [r6]); (try rw [q3]); (try rw [q4]); (try rw [hp]); (try rw [hq]); go_big_quiet_on)))
        refine wpQuiet_nil ?_
        rintro _ ⟨tq, rfl⟩))
  go_loopw [7, 8, 9] (fun v i _ wr => ∃ (k : Nat) (xs : List Gst) (a : Option Addr) (c : Nat) (B : List Nat), k ≤ 7 ∧ i = .int .i64 k ∧ v = .slice a xs.length c ∧ xs.length ≤ 21 ∧ RowX wr 71 7 Gst.cells (.slice a xs.length c) xs B ∧ (∀ b ∈ B, M < b) ∧ Rdr lo p (Q + 10 + 700 * (7 - k)) wr ∧ Chg [p] w wr ∧ Held [(M, fun o => o = oMp m), (R, fun o => o = oMp ⟨0, 0⟩)] wr) (fun _ i _ _ => (intOf i).toNat)
  case atStart => exact ⟨k0, [], _, _, [], hk0, rfl, rfl, by simp, .inl ⟨rfl, rfl, _, rfl, .inr ⟨_, rfl⟩⟩, by simp, (HRY.out.of zq0).up (by omega), HCY.out.trans (Chg.of_ext zq0 [p]), HHY.out.of zq0⟩
  case round =>
    obtain ⟨k, xs, a, c, B, hk, rfl, rfl, hxk, hrow, hB, hR, hC, hH⟩ := hrel
    have HROW := hid hrow
    have HB := hid hB
    have HRZ := hid hR
    have HCZ := hid hC
    have HHZ := hid hH
    clear hrow hB hR hC hH
    by_cases hk1 : 0 < k
    · try go_wp2_with (first
          | fail
          | (
            with_reducible refine wp_region_mix (by kernel_rfl) (by decide +kernel) ?_
            repeat (first
              | (refine mix_pure rfl ?_; (first | go_big_quiet_skip | (go_big_quiet_want; go_big_quiet_op; go_big_quiet_on)); refine wpQuiet_nil ?_)
              | (refine mix_skip (by rfl) ?_; (try simp only [Act.put, List.setIfInBounds_toArray, List.set_cons_zero, List.set_cons_succ]))
              | (refine mix_mk rfl (by rfl) (fun K hK => ?_); (first | (go_simp; first | skip)); (show K _ _); refine hK _ _ (show Ext _ _ from zq0) ?_; clear hK K; (try simp only [Act.put, List.setIfInBounds_toArray, List.set_cons_zero, List.set_cons_succ])))
            refine mix_nil ?_)
          | (
            with_reducible refine wp_region_ext (by kernel_rfl) (by kernel_rfl) ?_
            repeat (first | go_big_quiet_skip | (go_big_quiet_want; go_big_quiet_op; first | go_big_quiet_on | (apply Exists.intro; refine ⟨fun _ => ?_, ?_⟩; (fail); (try rw [h1]); (try rw [h2]); (try rw [h3]); (try rw [h4]); (try rw [p1]); (try rw [p2]); (try rw [p3]); (try rw [p4]); (try rw [r1]); (try rw [r2]); (try rw [r3]); (try rw [r4]); (try rw [r5]); (try rw [r6]); (try rw [q3]); (try rw [q4]); (try rw [hp]); (try rw [hq]); go_big_quiet_on)))
            refine wpQuiet_nil ?_
            rintro _ ⟨tq, rfl⟩))
      refine wp_gen fun Y2 hY => ?_
      have EY : Ext wr Y2 := by rw [hY]; ((try simp only [ext_drew]); (try simp only [ext_ext]); repeat (first | exact Ext.refl _ | with_reducible apply Ext.add | with_reducible apply Ext.dr | apply Ext.alloc | apply Ext.ext | apply Ext.drew | refine Ext.trans ?_ (by assumption)))
      have HROW := hid (HROW.out.of EY)
      have HJ := hid (show Rdr lo p (Q + 10 + 700 * (7 - k)) Y2 ∧ Held [(M, fun o => o = oMp m), (R, fun o => o = oMp ⟨0, 0⟩)] Y2 from ⟨HRZ.out.of EY, HHZ.out.of EY⟩)
      have HCY := hid (HCZ.out.trans (Chg.of_ext EY [p]))
      obtain ⟨_, hbM0, _⟩ := HJ.out.2.at (.head _)
      obtain ⟨_, hbR0, _⟩ := HJ.out.2.at (.tail _ (.head _))
      have lM0 := lt_blk hbM0
      have lR0 := lt_blk hbR0
      have hpW := HJ.out.1.lt
      obtain ⟨QQ, hQQ, hQ1⟩ : ∃ QQ, Q + 10 + 700 * (7 - k) = QQ ∧ QQ ≤ 66000 := ⟨_, rfl, by omega⟩
      rw [hQQ] at HJ
      clear hY EY HRZ HCZ HHZ hbM0 hbR0
      refine wp_region_flowD [some 27, some 28, some 29, some 30, some 31, some 32, some 9] (fun a b => ChgT Y2.heap.size [p] (fun _ => False) a b) (fun i a b => Chg [p] a b) (fun k9 w9 => Rdr lo p (QQ + 100 * k9) w9 ∧ Held [(M, fun o => o = oMp m), (R, fun o => o = oMp ⟨0, 0⟩)] w9) (fun i v9 w9 => match i with
        | 0 => v9 = .agg #[.int .i64 (m.c), .int .i64 (m.w)]
        | 1 => v9 = .slice a xs.length c
        | 2 => v9 = .pointer (some ⟨p, 0, none⟩)
        | 3 => v9 = .agg #[.int .i64 (m.c), .int .i64 (m.w)]
        | 4 => InG (v9)
        | 5 => LgC Y2.heap.size (v9) w9
        | _ => LgC Y2.heap.size (v9) w9) (by kernel_rfl) (by decide +kernel) (by simp) (fun a => ChgT.refl _ _ _ a) (fun a b c h k => ChgT.trans h k) ?_ (ChgT.of (Chg.drew (Chg.refl [] _)) (by simp)) ?_ ?_ ?_ ?_
      · intro i a b hi hG
        have hi9 : i < 7 := hi
        clear hi
        match i, hi9, hG with
        | 0, _, hG => exact ChgT.of hG (by simp; omega)
        | 1, _, hG => exact ChgT.of hG (by simp; omega)
        | 2, _, hG => exact ChgT.of hG (by simp; omega)
        | 3, _, hG => exact ChgT.of hG (by simp; omega)
        | 4, _, hG => exact ChgT.of hG (by simp; omega)
        | 5, _, hG => exact ChgT.of hG (by simp; omega)
        | 6, _, hG => exact ChgT.of hG (by simp; omega)
        | n + 7, h9, _ => exact absurd h9 (by omega)
      · exact ⟨HJ.out.1.of zq0, HJ.out.2.drw⟩
      · intro i j hi hj hij v9 w9 w8 hg hS hG
        have hi9 : i < 7 := hi
        have hj9 : j < 7 := hj
        have hG0 := hG
        have hG2 : ChgT Y2.heap.size [p] (fun _ => False) w9 w8 := by
          clear hG0 hij hi hj hS
          match i, hi9, hG with
          | 0, _, hG => exact ChgT.of hG (by simp; omega)
          | 1, _, hG => exact ChgT.of hG (by simp; omega)
          | 2, _, hG => exact ChgT.of hG (by simp; omega)
          | 3, _, hG => exact ChgT.of hG (by simp; omega)
          | 4, _, hG => exact ChgT.of hG (by simp; omega)
          | 5, _, hG => exact ChgT.of hG (by simp; omega)
          | 6, _, hG => exact ChgT.of hG (by simp; omega)
          | n + 7, h9, _ => exact absurd h9 (by omega)
        clear hi hj hG
        match j, hj9 with
        | 0, _ => exact hS
        | 1, _ => exact hS
        | 2, _ => exact hS
        | 3, _ => exact hS
        | 4, _ => exact hS
        | 5, _ => exact LgC.chgT hS hG2
        | 6, _ => exact LgC.chgT hS hG2
        | n + 7, h9 => exact absurd h9 (by omega)
      · intro i oo ho σ k9 w9 hG hk9 hJ hd
        have HG := hid hG
        have HJ9 := hid hJ
        have hW9 := hG.size
        have hkN : k9 < 7 := hk9
        have hi9 : i < 7 := (List.getElem?_eq_some_iff.1 ho).1
        clear hG hJ hk9
        match i, hi9, ho with
        | 0, _, ho =>
          obtain ⟨_, hbm, rfl⟩ := HJ9.out.2.at (.head _)
          have cM0 := (cell_blk hbm 0).trans (show _ = some (Value.int .i64 m.c) from rfl)
          have cM1 := (cell_blk hbm 1).trans (show _ = some (Value.int .i64 m.w) from rfl)
          have zM0 := frozen_blk hbm 0
          have zM1 := frozen_blk hbm 1
          have lM9 := lt_blk hbm
          clear hbm
          obtain rfl := Option.some.inj ho
          clear hd ho
          simp only [actO, putO, List.setIfInBounds_toArray, List.set_cons_zero, List.set_cons_succ, Nat.reduceAdd]
          refine flow_K (fun K hK => ?_)
          go_simp
          (show K _ _)
          refine hK _ _ ⟨_, rfl, by simp, Chg.of_ext (show Ext _ _ from zq0) _, ⟨(HJ9.out.1.of (show Ext _ _ from zq0)).up (by omega), HJ9.out.2.of (show Ext _ _ from zq0)⟩, rfl⟩
        | 1, _, ho =>
          obtain rfl := Option.some.inj ho
          clear hd ho
          simp only [actO, putO, List.setIfInBounds_toArray, List.set_cons_zero, List.set_cons_succ, Nat.reduceAdd]
          refine flow_K (fun K hK => ?_)
          go_simp
          (show K _ _)
          refine hK _ _ ⟨_, rfl, by simp, Chg.of_ext (show Ext _ _ from zq0) _, ⟨(HJ9.out.1.of (show Ext _ _ from zq0)).up (by omega), HJ9.out.2.of (show Ext _ _ from zq0)⟩, rfl⟩
        | 2, _, ho =>
          obtain rfl := Option.some.inj ho
          clear hd ho
          simp only [actO, putO, List.setIfInBounds_toArray, List.set_cons_zero, List.set_cons_succ, Nat.reduceAdd]
          refine flow_K (fun K hK => ?_)
          go_simp
          (show K _ _)
          refine hK _ _ ⟨_, rfl, by simp, Chg.of_ext (show Ext _ _ from zq0) _, ⟨(HJ9.out.1.of (show Ext _ _ from zq0)).up (by omega), HJ9.out.2.of (show Ext _ _ from zq0)⟩, rfl⟩
        | 3, _, ho =>
          obtain ⟨_, hbm, rfl⟩ := HJ9.out.2.at (.head _)
          have cM0 := (cell_blk hbm 0).trans (show _ = some (Value.int .i64 m.c) from rfl)
          have cM1 := (cell_blk hbm 1).trans (show _ = some (Value.int .i64 m.w) from rfl)
          have zM0 := frozen_blk hbm 0
          have zM1 := frozen_blk hbm 1
          have lM9 := lt_blk hbm
          clear hbm
          obtain rfl := Option.some.inj ho
          clear hd ho
          simp only [actO, putO, List.setIfInBounds_toArray, List.set_cons_zero, List.set_cons_succ, Nat.reduceAdd]
          refine flow_K (fun K hK => ?_)
          go_simp
          (show K _ _)
          refine hK _ _ ⟨_, rfl, by simp, Chg.of_ext (show Ext _ _ from zq0) _, ⟨(HJ9.out.1.of (show Ext _ _ from zq0)).up (by omega), HJ9.out.2.of (show Ext _ _ from zq0)⟩, rfl⟩
        | 4, _, ho =>
          have e2 : σ 2 = .pointer (some ⟨p, 0, none⟩) := hd 2 (by obtain rfl := Option.some.inj ho; kernel_rfl)
          have e3 : σ 3 = .agg #[.int .i64 (m.c), .int .i64 (m.w)] := hd 3 (by obtain rfl := Option.some.inj ho; kernel_rfl)
          obtain rfl := Option.some.inj ho
          clear hd ho
          simp only [actO, putO, List.setIfInBounds_toArray, List.set_cons_zero, List.set_cons_succ, Nat.reduceAdd, e2, e3]
          refine flow_K (fun K hK => ?_)
          have HRd := hid HJ9.out.1
          go_simp
          refine (l21Ghost_c lo p _ m w9 HRd.out (by omega) HM.out).mono ?_
          rintro e w8 ⟨vv, rfl, hR8, hC8⟩
          (show K _ _)
          refine hK _ _ ⟨_, rfl, by simp, hC8, ⟨hR8.up (by omega), HJ9.out.2.chg hC8 (by simp; omega)⟩, ⟨vv, rfl, trivial⟩⟩
        | 5, _, ho =>
          have e0 : σ 0 = .agg #[.int .i64 (m.c), .int .i64 (m.w)] := hd 0 (by obtain rfl := Option.some.inj ho; kernel_rfl)
          have e1 : σ 1 = .slice a xs.length c := hd 1 (by obtain rfl := Option.some.inj ho; kernel_rfl)
          obtain ⟨x4, e4, h4⟩ : InG (σ 4) := hd 4 (by obtain rfl := Option.some.inj ho; kernel_rfl)
          obtain rfl := Option.some.inj ho
          clear hd ho
          simp only [actO, putO, List.setIfInBounds_toArray, List.set_cons_zero, List.set_cons_succ, Nat.reduceAdd, e0, e1, e4]
          refine flow_K (fun K hK => ?_)
          have HRd := hid HJ9.out.1
          go_simp
          refine (sGstPut_c m xs x4 a xs.length c w9 (rowG_re (HROW.out.chgT HG.out rfl (fun b hb => by have := HB.out b hb; simp; omega))) (by omega)).mono ?_
          rintro e w8 ⟨a8, c8, B8, rfl, hE8, hrow8, hB8⟩; have hC8 : Chg [p] w9 w8 := Chg.of_ext hE8 _; have hR8 := HJ9.out.1.of hE8
          (show K _ _)
          refine hK _ _ ⟨_, rfl, by simp, hC8, ⟨hR8.up (by omega), HJ9.out.2.chg hC8 (by simp; omega)⟩, ⟨_, rfl, _, ⟨B8, hrow8, fun b hb => Nat.le_trans hW9 (hB8 b hb)⟩, gstPutV_len2 m xs _⟩⟩
        | 6, _, ho =>
          obtain ⟨x5, e5, h5⟩ : LgC Y2.heap.size (σ 5) _ := hd 5 (by obtain rfl := Option.some.inj ho; kernel_rfl)
          obtain rfl := Option.some.inj ho
          clear hd ho
          simp only [actO, putO, List.setIfInBounds_toArray, List.set_cons_zero, List.set_cons_succ, Nat.reduceAdd, e5]
          refine flow_K (fun K hK => ?_)
          go_simp
          (show K _ _)
          refine hK _ _ ⟨_, rfl, by simp, Chg.of_ext (show Ext _ _ from zq0) _, ⟨(HJ9.out.1.of (show Ext _ _ from zq0)).up (by omega), HJ9.out.2.of (show Ext _ _ from zq0)⟩, ⟨x5, rfl, h5⟩⟩
      · intro σ w9 hG hJ hd
        have e0 : σ 0 = .agg #[.int .i64 (m.c), .int .i64 (m.w)] := hd 0 (by decide)
        have e1 : σ 1 = .slice a xs.length c := hd 1 (by decide)
        have e2 : σ 2 = .pointer (some ⟨p, 0, none⟩) := hd 2 (by decide)
        have e3 : σ 3 = .agg #[.int .i64 (m.c), .int .i64 (m.w)] := hd 3 (by decide)
        obtain ⟨x4, e4, h4⟩ : InG (σ 4) := hd 4 (by decide)
        obtain ⟨x5, e5, h5⟩ : LgC Y2.heap.size (σ 5) _ := hd 5 (by decide)
        obtain ⟨x6, e6, h6⟩ : LgC Y2.heap.size (σ 6) _ := hd 6 (by decide)
        have HG := hid hG
        have HJ9 := hid (show Rdr lo p (QQ + 100 * 7) w9 ∧ Held [(M, fun o => o = oMp m), (R, fun o => o = oMp ⟨0, 0⟩)] w9 from hJ)
        clear hd hG hJ
        simp only [actO, putO, List.setIfInBounds_toArray, List.set_cons_zero, List.set_cons_succ, Nat.reduceAdd, e0, e1, e2, e3, e4, e5, e6]
        clear e0 e1 e2 e3 e4 e5 e6
        obtain ⟨xs2, ⟨B2, hrow2, hB2⟩, hl2⟩ := h6
        obtain ⟨a2, c2, hsl⟩ := hrow2.slice
        subst hsl
        have hwY := HCY.out.size
        have HR2 := hid HJ9.out.1
        have HH2 := hid HJ9.out.2
        have HC2 := hid (HCY.out.trans (HG.out.chg rfl))
        have hro := HROW.out.chgT HG.out rfl (fun b hb => by have := HB.out b hb; simp; omega)
        have HRO := hid hro
        have HRO2 := hid hrow2
        have HB2 := hid hB2
        clear HJ9 HG HJ HCY hrow2 hB2 hro HROW
        by_cases h0 : 0 < xs2.length
        · try go_wp2_with (first
              | fail
              | (
                with_reducible refine wp_region_mix (by kernel_rfl) (by decide +kernel) ?_
                repeat (first
                  | (refine mix_pure rfl ?_; (first | go_big_quiet_skip | (go_big_quiet_want; go_big_quiet_op; go_big_quiet_on)); refine wpQuiet_nil ?_)
                  | (refine mix_skip (by rfl) ?_; (try simp only [Act.put, List.setIfInBounds_toArray, List.set_cons_zero, List.set_cons_succ]))
                  | (refine mix_mk rfl (by rfl) (fun K hK => ?_); (first | (go_simp; first | skip)); (show K _ _); refine hK _ _ (show Ext _ _ from zq0) ?_; clear hK K; (try simp only [Act.put, List.setIfInBounds_toArray, List.set_cons_zero, List.set_cons_succ])))
                refine mix_nil ?_)
              | (
                with_reducible refine wp_region_ext (by kernel_rfl) (by kernel_rfl) ?_
                repeat (first | go_big_quiet_skip | (go_big_quiet_want; go_big_quiet_op; first | go_big_quiet_on | (apply Exists.intro; refine ⟨fun _ => ?_, ?_⟩; (fail); (try rw [h1]); (try rw [h2]); (try rw [h3]); (try rw [h4]); (try rw [p1]); (try rw [p2]); (try rw [p3]); (try rw [p4]); (try rw [r1]); (try rw [r2]); (try rw [r3]); (try rw [r4]); (try rw [r5]); (try rw [r6]); (try rw [q3]); (try rw [q4]); (try rw [hp]); (try rw [hq]); go_big_quiet_on)))
                refine wpQuiet_nil ?_
                rintro _ ⟨tq, rfl⟩))
          go_roundw
          case rel => exact ⟨k - 1, xs2, a2, c2, B2, by omega, by go_num, rfl, hl2, HRO2.out.of zq0, fun b hb => Nat.lt_of_lt_of_le lM0 (HB2.out b hb), (HR2.out.of zq0).up (by omega), HC2.out.trans (Chg.of_ext zq0 [p]), HH2.out.of zq0⟩
          case measure => simp [intOf]; omega
        · try go_wp2_with (first
              | fail
              | (
                with_reducible refine wp_region_mix (by kernel_rfl) (by decide +kernel) ?_
                repeat (first
                  | (refine mix_pure rfl ?_; (first | go_big_quiet_skip | (go_big_quiet_want; go_big_quiet_op; go_big_quiet_on)); refine wpQuiet_nil ?_)
                  | (refine mix_skip (by rfl) ?_; (try simp only [Act.put, List.setIfInBounds_toArray, List.set_cons_zero, List.set_cons_succ]))
                  | (refine mix_mk rfl (by rfl) (fun K hK => ?_); (first | (go_simp; first | skip)); (show K _ _); refine hK _ _ (show Ext _ _ from zq0) ?_; clear hK K; (try simp only [Act.put, List.setIfInBounds_toArray, List.set_cons_zero, List.set_cons_succ])))
                refine mix_nil ?_)
              | (
                with_reducible refine wp_region_ext (by kernel_rfl) (by kernel_rfl) ?_
                repeat (first | go_big_quiet_skip | (go_big_quiet_want; go_big_quiet_op; first | go_big_quiet_on | (apply Exists.intro; refine ⟨fun _ => ?_, ?_⟩; (fail); (try rw [h1]); (try rw [h2]); (try rw [h3]); (try rw [h4]); (try rw [p1]); (try rw [p2]); (try rw [p3]); (try rw [p4]); (try rw [r1]); (try rw [r2]); (try rw [r3]); (try rw [r4]); (try rw [r5]); (try rw [r6]); (try rw [q3]); (try rw [q4]); (try rw [hp]); (try rw [hq]); go_big_quiet_on)))
                refine wpQuiet_nil ?_
                rintro _ ⟨tq, rfl⟩))
          go_roundw
          case rel => exact ⟨k - 1, xs, a, c, B, by omega, by go_num, rfl, hxk, HRO.out.of zq0, HB.out, (HR2.out.of zq0).up (by omega), HC2.out.trans (Chg.of_ext zq0 [p]), HH2.out.of zq0⟩
          case measure => simp [intOf]; omega
    · obtain rfl : k = 0 := by omega
      clear hk1
      try go_wp2_with (first
          | fail
          | (
            with_reducible refine wp_region_mix (by kernel_rfl) (by decide +kernel) ?_
            repeat (first
              | (refine mix_pure rfl ?_; (first | go_big_quiet_skip | (go_big_quiet_want; go_big_quiet_op; go_big_quiet_on)); refine wpQuiet_nil ?_)
              | (refine mix_skip (by rfl) ?_; (try simp only [Act.put, List.setIfInBounds_toArray, List.set_cons_zero, List.set_cons_succ]))
              | (refine mix_mk rfl (by rfl) (fun K hK => ?_); (first | (go_simp; first | skip)); (show K _ _); refine hK _ _ (show Ext _ _ from zq0) ?_; clear hK K; (try simp only [Act.put, List.setIfInBounds_toArray, List.set_cons_zero, List.set_cons_succ])))
            refine mix_nil ?_)
          | (
            with_reducible refine wp_region_ext (by kernel_rfl) (by kernel_rfl) ?_
            repeat (first | go_big_quiet_skip | (go_big_quiet_want; go_big_quiet_op; first | go_big_quiet_on | (apply Exists.intro; refine ⟨fun _ => ?_, ?_⟩; (fail); (try rw [h1]); (try rw [h2]); (try rw [h3]); (try rw [h4]); (try rw [p1]); (try rw [p2]); (try rw [p3]); (try rw [p4]); (try rw [r1]); (try rw [r2]); (try rw [r3]); (try rw [r4]); (try rw [r5]); (try rw [r6]); (try rw [q3]); (try rw [q4]); (try rw [hp]); (try rw [hq]); go_big_quiet_on)))
            refine wpQuiet_nil ?_
            rintro _ ⟨tq, rfl⟩))
      refine (pick_c lo p _ 30 wr HRZ.out (by omega) (by omega) (by omega)).mono ?_
      rintro e Z ⟨v, rfl, hv0, hv1, hRZ, hCZ⟩
      have hrZ := HROW.out.chg hCZ (fun b hb => by have := HB.out b hb; simp; omega)
      have HRY := hid (hRZ.up (show _ ≤ Q + 6000 by omega))
      have HCY := hid (HCZ.out.trans hCZ)
      have HHY := hid (HHZ.out.chg hCZ (by simp; omega))
      have HROZ := hid hrZ
      clear hRZ hCZ hrZ HROW HRZ HCZ HHZ
      by_cases hv : v = 0
      · subst hv
        clear hv0 hv1
        try go_wp2_with (first
            | fail
            | (
              with_reducible refine wp_region_mix (by kernel_rfl) (by decide +kernel) ?_
              repeat (first
                | (refine mix_pure rfl ?_; (first | go_big_quiet_skip | (go_big_quiet_want; go_big_quiet_op; go_big_quiet_on)); refine wpQuiet_nil ?_)
                | (refine mix_skip (by rfl) ?_; (try simp only [Act.put, List.setIfInBounds_toArray, List.set_cons_zero, List.set_cons_succ]))
                | (refine mix_mk rfl (by rfl) (fun K hK => ?_); (first | (go_simp; first | skip)); (show K _ _); refine hK _ _ (show Ext _ _ from zq0) ?_; clear hK K; (try simp only [Act.put, List.setIfInBounds_toArray, List.set_cons_zero, List.set_cons_succ])))
              refine mix_nil ?_)
            | (
              with_reducible refine wp_region_ext (by kernel_rfl) (by kernel_rfl) ?_
              repeat (first | go_big_quiet_skip | (go_big_quiet_want; go_big_quiet_op; first | go_big_quiet_on | (apply Exists.intro; refine ⟨fun _ => ?_, ?_⟩; (fail); (try rw [h1]); (try rw [h2]); (try rw [h3]); (try rw [h4]); (try rw [p1]); (try rw [p2]); (try rw [p3]); (try rw [p4]); (try rw [r1]); (try rw [r2]); (try rw [r3]); (try rw [r4]); (try rw [r5]); (try rw [r6]); (try rw [q3]); (try rw [q4]); (try rw [hp]); (try rw [hq]); go_big_quiet_on)))
              refine wpQuiet_nil ?_
              rintro _ ⟨tq, rfl⟩))
        go_loopw [7, 10, 11, 12] (fun v i _ _ wr => ∃ (k : Nat) (xs : List Gst) (a : Option Addr) (c : Nat) (B : List Nat), 1 ≤ k ∧ k ≤ 10 ∧ i = .int .i64 k ∧ v = .slice a xs.length c ∧ xs.length ≤ 21 ∧ RowX wr 71 7 Gst.cells (.slice a xs.length c) xs B ∧ (∀ b ∈ B, M < b) ∧ Rdr lo p (Q + 6000) wr ∧ Chg [p] w wr ∧ Held [(M, fun o => o = oMp m), (R, fun o => o = oMp ⟨0, 0⟩)] wr) (fun _ i _ _ _ => 10 - (intOf i).toNat)
        case atStart => exact ⟨1, xs, a, c, B, by omega, by omega, rfl, rfl, hxk, HROZ.out.of zq0, HB.out, HRY.out.of zq0, HCY.out.trans (Chg.of_ext zq0 [p]), HHY.out.of zq0⟩
        case round =>
          obtain ⟨k, xs, a, c, B, hk0, hk, rfl, rfl, hxk, hrow, hB, hR, hC, hH⟩ := hrel
          have HROZ := hid hrow
          have HB := hid hB
          have HRY := hid hR
          have HCY := hid hC
          have HHY := hid hH
          clear hrow hB hR hC hH
          by_cases hle : (k : Int) ≤ 9
          · try go_wp2_with (first
                | fail
                | (
                  with_reducible refine wp_region_mix (by kernel_rfl) (by decide +kernel) ?_
                  repeat (first
                    | (refine mix_pure rfl ?_; (first | go_big_quiet_skip | (go_big_quiet_want; go_big_quiet_op; go_big_quiet_on)); refine wpQuiet_nil ?_)
                    | (refine mix_skip (by rfl) ?_; (try simp only [Act.put, List.setIfInBounds_toArray, List.set_cons_zero, List.set_cons_succ]))
                    | (refine mix_mk rfl (by rfl) (fun K hK => ?_); (first | (go_simp; first | skip)); (show K _ _); refine hK _ _ (show Ext _ _ from zq0) ?_; clear hK K; (try simp only [Act.put, List.setIfInBounds_toArray, List.set_cons_zero, List.set_cons_succ])))
                  refine mix_nil ?_)
                | (
                  with_reducible refine wp_region_ext (by kernel_rfl) (by kernel_rfl) ?_
                  repeat (first | go_big_quiet_skip | (go_big_quiet_want; go_big_quiet_op; first | go_big_quiet_on | (apply Exists.intro; refine ⟨fun _ => ?_, ?_⟩; (fail); (try rw [h1]); (try rw [h2]); (try rw [h3]); (try rw [h4]); (try rw [p1]); (try rw [p2]); (try rw [p3]); (try rw [p4]); (try rw [r1]); (try rw [r2]); (try rw [r3]); (try rw [r4]); (try rw [r5]); (try rw [r6]); (try rw [q3]); (try rw [q4]); (try rw [hp]); (try rw [hq]); go_big_quiet_on)))
                  refine wpQuiet_nil ?_
                  rintro _ ⟨tq, rfl⟩))
            go_loopw [7, 11, 12] (fun v i _ wr => ∃ (j : Nat) (xs : List Gst) (a : Option Addr) (c : Nat) (B : List Nat), (j : Int) ≤ m.c ∧ i = .int .i64 j ∧ v = .slice a xs.length c ∧ xs.length ≤ 21 ∧ RowX wr 71 7 Gst.cells (.slice a xs.length c) xs B ∧ (∀ b ∈ B, M < b) ∧ Rdr lo p (Q + 6000) wr ∧ Chg [p] w wr ∧ Held [(M, fun o => o = oMp m), (R, fun o => o = oMp ⟨0, 0⟩)] wr) (fun _ i _ _ => (m.c - intOf i).toNat)
            case atStart => exact ⟨0, xs, a, c, B, by omega, rfl, rfl, hxk, HROZ.out.of zq0, HB.out, HRY.out.of zq0, HCY.out.trans (Chg.of_ext zq0 [p]), HHY.out.of zq0⟩
            case round =>
              obtain ⟨j, xs, a, c, B, hj, rfl, rfl, hxk, hrow, hB, hR, hC, hH⟩ := hrel
              obtain ⟨_, hbM, rfl⟩ := hH.at (.head _)
              have cM0 := (cell_blk hbM 0).trans (show _ = some (Value.int .i64 m.c) from rfl)
              have cM1 := (cell_blk hbM 1).trans (show _ = some (Value.int .i64 m.w) from rfl)
              have lM := lt_blk hbM
              have HROZ := hid hrow
              have HRE := hid (rowG_re hrow)
              have HB := hid hB
              have HRY := hid hR
              have HCY := hid hC
              have HHY := hid hH
              clear hrow hB hR hC hH hbM
              by_cases hjm : (j : Int) < m.c
              · try go_wp2_with (first
                    | fail
                    | (
                      with_reducible refine wp_region_mix (by kernel_rfl) (by decide +kernel) ?_
                      repeat (first
                        | (refine mix_pure rfl ?_; (first | go_big_quiet_skip | (go_big_quiet_want; go_big_quiet_op; go_big_quiet_on)); refine wpQuiet_nil ?_)
                        | (refine mix_skip (by rfl) ?_; (try simp only [Act.put, List.setIfInBounds_toArray, List.set_cons_zero, List.set_cons_succ]))
                        | (refine mix_mk rfl (by rfl) (fun K hK => ?_); (first | (go_simp; first | skip)); (show K _ _); refine hK _ _ (show Ext _ _ from zq0) ?_; clear hK K; (try simp only [Act.put, List.setIfInBounds_toArray, List.set_cons_zero, List.set_cons_succ])))
                      refine mix_nil ?_)
                    | (
                      with_reducible refine wp_region_ext (by kernel_rfl) (by kernel_rfl) ?_
                      repeat (first | go_big_quiet_skip | (go_big_quiet_want; go_big_quiet_op; first | go_big_quiet_on | (apply Exists.intro; refine ⟨fun _ => ?_, ?_⟩; (fail); (try rw [h1]); (try rw [h2]); (try rw [h3]); (try rw [h4]); (try rw [p1]); (try rw [p2]); (try rw [p3]); (try rw [p4]); (try rw [r1]); (try rw [r2]); (try rw [r3]); (try rw [r4]); (try rw [r5]); (try rw [r6]); (try rw [q3]); (try rw [q4]); (try rw [hp]); (try rw [hq]); go_big_quiet_on)))
                      refine wpQuiet_nil ?_
                      rintro _ ⟨tq, rfl⟩))
                refine (sGstPut_e m xs ⟨_, _, ⟨_, _, _, _, _⟩⟩ _ _ _ _ (HRE.out.of zq0) (by omega)).mono ?_
                rintro e w8 ⟨ys, a8, c8, B8, rfl, hl8, hE8, hrow8, hB8⟩
                have HRO8 := hid hrow8
                have HB8 := hid (show ∀ b ∈ B8, M < b from fun b hb => Nat.lt_of_lt_of_le lM (Nat.le_trans (Ext.size zq0) (hB8 b hb)))
                have HE8 := hid (show Ext wr w8 from Ext.trans zq0 hE8)
                clear hrow8 hB8 hE8 cM0 cM1 HRE
                by_cases h0 : 0 < ys.length
                · try go_wp2_with (first
                      | fail
                      | (
                        with_reducible refine wp_region_mix (by kernel_rfl) (by decide +kernel) ?_
                        repeat (first
                          | (refine mix_pure rfl ?_; (first | go_big_quiet_skip | (go_big_quiet_want; go_big_quiet_op; go_big_quiet_on)); refine wpQuiet_nil ?_)
                          | (refine mix_skip (by rfl) ?_; (try simp only [Act.put, List.setIfInBounds_toArray, List.set_cons_zero, List.set_cons_succ]))
                          | (refine mix_mk rfl (by rfl) (fun K hK => ?_); (first | (go_simp; first | skip)); (show K _ _); refine hK _ _ (show Ext _ _ from zq0) ?_; clear hK K; (try simp only [Act.put, List.setIfInBounds_toArray, List.set_cons_zero, List.set_cons_succ])))
                        refine mix_nil ?_)
                      | (
                        with_reducible refine wp_region_ext (by kernel_rfl) (by kernel_rfl) ?_
                        repeat (first | go_big_quiet_skip | (go_big_quiet_want; go_big_quiet_op; first | go_big_quiet_on | (apply Exists.intro; refine ⟨fun _ => ?_, ?_⟩; (fail); (try rw [h1]); (try rw [h2]); (try rw [h3]); (try rw [h4]); (try rw [p1]); (try rw [p2]); (try rw [p3]); (try rw [p4]); (try rw [r1]); (try rw [r2]); (try rw [r3]); (try rw [r4]); (try rw [r5]); (try rw [r6]); (try rw [q3]); (try rw [q4]); (try rw [hp]); (try rw [hq]); go_big_quiet_on)))
                        refine wpQuiet_nil ?_
                        rintro _ ⟨tq, rfl⟩))
                  go_roundw
                  case rel => exact ⟨j + 1, ys, a8, c8, B8, by omega, by go_num, rfl, hl8, HRO8.out.of zq0, HB8.out, HRY.out.of (HE8.out.trans zq0), HCY.out.trans (Chg.of_ext (HE8.out.trans zq0) [p]), HHY.out.of (HE8.out.trans zq0)⟩
                  case measure => simp [intOf]; omega
                · try go_wp2_with (first
                      | fail
                      | (
                        with_reducible refine wp_region_mix (by kernel_rfl) (by decide +kernel) ?_
                        repeat (first
                          | (refine mix_pure rfl ?_; (first | go_big_quiet_skip | (go_big_quiet_want; go_big_quiet_op; go_big_quiet_on)); refine wpQuiet_nil ?_)
                          | (refine mix_skip (by rfl) ?_; (try simp only [Act.put, List.setIfInBounds_toArray, List.set_cons_zero, List.set_cons_succ]))
                          | (refine mix_mk rfl (by rfl) (fun K hK => ?_); (first | (go_simp; first | skip)); (show K _ _); refine hK _ _ (show Ext _ _ from zq0) ?_; clear hK K; (try simp only [Act.put, List.setIfInBounds_toArray, List.set_cons_zero, List.set_cons_succ])))
                        refine mix_nil ?_)
                      | (
                        with_reducible refine wp_region_ext (by kernel_rfl) (by kernel_rfl) ?_
                        repeat (first | go_big_quiet_skip | (go_big_quiet_want; go_big_quiet_op; first | go_big_quiet_on | (apply Exists.intro; refine ⟨fun _ => ?_, ?_⟩; (fail); (try rw [h1]); (try rw [h2]); (try rw [h3]); (try rw [h4]); (try rw [p1]); (try rw [p2]); (try rw [p3]); (try rw [p4]); (try rw [r1]); (try rw [r2]); (try rw [r3]); (try rw [r4]); (try rw [r5]); (try rw [r6]); (try rw [q3]); (try rw [q4]); (try rw [hp]); (try rw [hq]); go_big_quiet_on)))
                        refine wpQuiet_nil ?_
                        rintro _ ⟨tq, rfl⟩))
                  go_roundw
                  case rel => exact ⟨j + 1, xs, a, c, B, by omega, by go_num, rfl, hxk, HROZ.out.of (HE8.out.trans zq0), HB.out, HRY.out.of (HE8.out.trans zq0), HCY.out.trans (Chg.of_ext (HE8.out.trans zq0) [p]), HHY.out.of (HE8.out.trans zq0)⟩
                  case measure => simp [intOf]; omega
              · try go_wp2_with (first
                    | fail
                    | (
                      with_reducible refine wp_region_mix (by kernel_rfl) (by decide +kernel) ?_
                      repeat (first
                        | (refine mix_pure rfl ?_; (first | go_big_quiet_skip | (go_big_quiet_want; go_big_quiet_op; go_big_quiet_on)); refine wpQuiet_nil ?_)
                        | (refine mix_skip (by rfl) ?_; (try simp only [Act.put, List.setIfInBounds_toArray, List.set_cons_zero, List.set_cons_succ]))
                        | (refine mix_mk rfl (by rfl) (fun K hK => ?_); (first | (go_simp; first | skip)); (show K _ _); refine hK _ _ (show Ext _ _ from zq0) ?_; clear hK K; (try simp only [Act.put, List.setIfInBounds_toArray, List.set_cons_zero, List.set_cons_succ])))
                      refine mix_nil ?_)
                    | (
                      with_reducible refine wp_region_ext (by kernel_rfl) (by kernel_rfl) ?_
                      repeat (first | go_big_quiet_skip | (go_big_quiet_want; go_big_quiet_op; first | go_big_quiet_on | (apply Exists.intro; refine ⟨fun _ => ?_, ?_⟩; (fail); (try rw [h1]); (try rw [h2]); (try rw [h3]); (try rw [h4]); (try rw [p1]); (try rw [p2]); (try rw [p3]); (try rw [p4]); (try rw [r1]); (try rw [r2]); (try rw [r3]); (try rw [r4]); (try rw [r5]); (try rw [r6]); (try rw [q3]); (try rw [q4]); (try rw [hp]); (try rw [hq]); go_big_quiet_on)))
                      refine wpQuiet_nil ?_
                      rintro _ ⟨tq, rfl⟩))
                go_roundw
                case rel => exact ⟨k + 1, xs, a, c, B, by omega, by omega, by go_num, rfl, hxk, HROZ.out.of zq0, HB.out, HRY.out.of zq0, HCY.out.trans (Chg.of_ext zq0 [p]), HHY.out.of zq0⟩
                case measure => simp [intOf]; omega
          · obtain rfl : k = 10 := by omega
            clear hle
            try go_wp2_with (first
                | fail
                | (
                  with_reducible refine wp_region_mix (by kernel_rfl) (by decide +kernel) ?_
                  repeat (first
                    | (refine mix_pure rfl ?_; (first | go_big_quiet_skip | (go_big_quiet_want; go_big_quiet_op; go_big_quiet_on)); refine wpQuiet_nil ?_)
                    | (refine mix_skip (by rfl) ?_; (try simp only [Act.put, List.setIfInBounds_toArray, List.set_cons_zero, List.set_cons_succ]))
                    | (refine mix_mk rfl (by rfl) (fun K hK => ?_); (first | (go_simp; first | skip)); (show K _ _); refine hK _ _ (show Ext _ _ from zq0) ?_; clear hK K; (try simp only [Act.put, List.setIfInBounds_toArray, List.set_cons_zero, List.set_cons_succ])))
                  refine mix_nil ?_)
                | (
                  with_reducible refine wp_region_ext (by kernel_rfl) (by kernel_rfl) ?_
                  repeat (first | go_big_quiet_skip | (go_big_quiet_want; go_big_quiet_op; first | go_big_quiet_on | (apply Exists.intro; refine ⟨fun _ => ?_, ?_⟩; (fail); (try rw [h1]); (try rw [h2]); (try rw [h3]); (try rw [h4]); (try rw [p1]); (try rw [p2]); (try rw [p3]); (try rw [p4]); (try rw [r1]); (try rw [r2]); (try rw [r3]); (try rw [r4]); (try rw [r5]); (try rw [r6]); (try rw [q3]); (try rw [q4]); (try rw [hp]); (try rw [hq]); go_big_quiet_on)))
                  refine wpQuiet_nil ?_
                  rintro _ ⟨tq, rfl⟩))
            refine (pick_c lo p _ n wr HRY.out (by omega) (by omega) (by omega)).mono ?_
            rintro e Z3 ⟨v, rfl, hv0, hv1, hRZ, hCZ⟩
            have HROT := hid (HROZ.out.chg hCZ (fun b hb => by have := HB.out b hb; simp; omega))
            have HRT := hid hRZ
            have HCT := hid (HCY.out.trans hCZ)
            obtain ⟨_, hbM, rfl⟩ := (HHY.out.chg hCZ (by simp; omega)).at (.head _)
            obtain ⟨_, hbR, rfl⟩ := (HHY.out.chg hCZ (by simp; omega)).at (.tail _ (.head _))
            have cM0 : Z3.cell? ⟨M, 0, none⟩ = some (.int .i64 m.c) := (cell_blk hbM 0).trans rfl
            have cM1 : Z3.cell? ⟨M, 1, none⟩ = some (.int .i64 m.w) := (cell_blk hbM 1).trans rfl
            have cR0 : Z3.cell? ⟨R, 0, none⟩ = some (.int .i64 0) := (cell_blk hbR 0).trans rfl
            have cR1 : Z3.cell? ⟨R, 1, none⟩ = some (.int .i64 0) := (cell_blk hbR 1).trans rfl
            have zR0 := frozen_blk hbR 0
            have zR1 := frozen_blk hbR 1
            have lM := lt_blk hbM
            have lR := lt_blk hbR
            have HBM := hid hbM
            have HBR := hid hbR
            clear hRZ hCZ HROZ HRY HCY HHY hbM hbR
            by_cases hv : v = 0
            · subst hv
              clear hv0 hv1
              try go_wp2_with (first
                  | fail
                  | (
                    with_reducible refine wp_region_mix (by kernel_rfl) (by decide +kernel) ?_
                    repeat (first
                      | (refine mix_pure rfl ?_; (first | go_big_quiet_skip | (go_big_quiet_want; go_big_quiet_op; go_big_quiet_on)); refine wpQuiet_nil ?_)
                      | (refine mix_skip (by rfl) ?_; (try simp only [Act.put, List.setIfInBounds_toArray, List.set_cons_zero, List.set_cons_succ]))
                      | (refine mix_mk rfl (by rfl) (fun K hK => ?_); (first | (go_simp; first | skip)); (show K _ _); refine hK _ _ (show Ext _ _ from zq0) ?_; clear hK K; (try simp only [Act.put, List.setIfInBounds_toArray, List.set_cons_zero, List.set_cons_succ])))
                    refine mix_nil ?_)
                  | (
                    with_reducible refine wp_region_ext (by kernel_rfl) (by kernel_rfl) ?_
                    repeat (first | go_big_quiet_skip | (go_big_quiet_want; go_big_quiet_op; first | go_big_quiet_on | (apply Exists.intro; refine ⟨fun _ => ?_, ?_⟩; (fail); (try rw [h1]); (try rw [h2]); (try rw [h3]); (try rw [h4]); (try rw [p1]); (try rw [p2]); (try rw [p3]); (try rw [p4]); (try rw [r1]); (try rw [r2]); (try rw [r3]); (try rw [r4]); (try rw [r5]); (try rw [r6]); (try rw [q3]); (try rw [q4]); (try rw [hp]); (try rw [hq]); go_big_quiet_on)))
                    refine wpQuiet_nil ?_
                    rintro _ ⟨tq, rfl⟩))
              refine (l21Ghost_c lo p _ m Z3 HRT.out (by omega) HM.out).mono ?_
              rintro e V ⟨g, rfl, hRV, hCV⟩
              have HROV := hid (HROT.out.chg hCV (fun b hb => by have := HB.out b hb; simp; omega))
              have HRV := hid hRV
              have HCV := hid (HCT.out.trans hCV)
              have HBMV := hid ((hCV.block M lM (by simpa using hMp)).trans HBM.out)
              have HBRV := hid ((hCV.block R lR (by simpa using hRp)).trans HBR.out)
              have lMV := lt_blk HBMV.out
              have lRV := lt_blk HBRV.out
              clear hRV hCV HROT HRT HCT HBM HBR cM0 cM1 cR0 cR1 zR0 zR1 lM lR
              try go_wp2_with (first
                  | (((with_reducible refine app_gate ?_); (refine wpList_appXK (cells := Gst.cells) (k := 7) (bytes := 56) (z := .agg #[.int .i64 0, .int .i64 0, .int .i64 0, .int .i64 0, .int .i64 0, .int .i64 0, .int .i64 0]) Try.underlying69 (by kernel_rfl) rfl (by decide) (by decide) (fun _ => rfl) (fun x u hu => by simp only [Gst.cells, List.mem_cons, List.not_mem_nil, or_false] at hu; rcases hu with rfl | rfl | rfl | rfl | rfl | rfl | rfl <;> rfl) rfl _ _ rfl rfl (xs := xs) (HROV.out.of zq0) (g) rfl (alloc_last (by (try simp [go_sem]) <;> (try simp [Xt.add]) <;> omega)) (by omega) ?_); intro v' w' B' h1 h2 h3; have HROV' := hid h1; have HROVc := hid h2; have HROVb := hid h3; clear h1 h2 h3); have hchB : Chg B V w' := (Chg.trans zq1 HROVc.out); have hbM := (hchB.block M lMV (fun hb => by have := HB.out M hb; omega)).trans HBMV.out; have hbR := (hchB.block R lRV (fun hb => by have := HB.out R hb; omega)).trans HBRV.out; have cM0 : w'.cell? ⟨M, 0, none⟩ = some (.int .i64 m.c) := (cell_blk hbM 0).trans rfl; have cM1 : w'.cell? ⟨M, 1, none⟩ = some (.int .i64 m.w) := (cell_blk hbM 1).trans rfl; have cR0 : w'.cell? ⟨R, 0, none⟩ = some (.int .i64 0) := (cell_blk hbR 0).trans rfl; have cR1 : w'.cell? ⟨R, 1, none⟩ = some (.int .i64 0) := (cell_blk hbR 1).trans rfl; have zR0 := frozen_blk hbR 0; have zR1 := frozen_blk hbR 1; have lM := lt_blk hbM; have lR := lt_blk hbR; have HCB := hid hchB; clear hchB hbM hbR)
                  | (
                    with_reducible refine wp_region_mix (by kernel_rfl) (by decide +kernel) ?_
                    repeat (first
                      | (refine mix_pure rfl ?_; (first | go_big_quiet_skip | (go_big_quiet_want; go_big_quiet_op; go_big_quiet_on)); refine wpQuiet_nil ?_)
                      | (refine mix_skip (by rfl) ?_; (try simp only [Act.put, List.setIfInBounds_toArray, List.set_cons_zero, List.set_cons_succ]))
                      | (refine mix_mk rfl (by rfl) (fun K hK => ?_); (first | (go_simp; first | (((with_reducible refine app_gate ?_); (refine wpList_appXK (cells := Gst.cells) (k := 7) (bytes := 56) (z := .agg #[.int .i64 0, .int .i64 0, .int .i64 0, .int .i64 0, .int .i64 0, .int .i64 0, .int .i64 0]) Try.underlying69 (by kernel_rfl) rfl (by decide) (by decide) (fun _ => rfl) (fun x u hu => by simp only [Gst.cells, List.mem_cons, List.not_mem_nil, or_false] at hu; rcases hu with rfl | rfl | rfl | rfl | rfl | rfl | rfl <;> rfl) rfl _ _ rfl rfl (xs := xs) (HROV.out.of zq0) (g) rfl (alloc_last (by (try simp [go_sem]) <;> (try simp [Xt.add]) <;> omega)) (by omega) ?_); intro v' w' B' h1 h2 h3; have HROV' := hid h1; have HROVc := hid h2; have HROVb := hid h3; clear h1 h2 h3); have hchB : Chg B V w' := (Chg.trans zq1 HROVc.out); have hbM := (hchB.block M lMV (fun hb => by have := HB.out M hb; omega)).trans HBMV.out; have hbR := (hchB.block R lRV (fun hb => by have := HB.out R hb; omega)).trans HBRV.out; have cM0 : w'.cell? ⟨M, 0, none⟩ = some (.int .i64 m.c) := (cell_blk hbM 0).trans rfl; have cM1 : w'.cell? ⟨M, 1, none⟩ = some (.int .i64 m.w) := (cell_blk hbM 1).trans rfl; have cR0 : w'.cell? ⟨R, 0, none⟩ = some (.int .i64 0) := (cell_blk hbR 0).trans rfl; have cR1 : w'.cell? ⟨R, 1, none⟩ = some (.int .i64 0) := (cell_blk hbR 1).trans rfl; have zR0 := frozen_blk hbR 0; have zR1 := frozen_blk hbR 1; have lM := lt_blk hbM; have lR := lt_blk hbR; have HCB := hid hchB; clear hchB hbM hbR) | skip)); (show K _ _); refine hK _ _ (show Ext _ _ from zq0) ?_; clear hK K; (try simp only [Act.put, List.setIfInBounds_toArray, List.set_cons_zero, List.set_cons_succ])))
                    refine mix_nil ?_)
                  | (
                    with_reducible refine wp_region_ext (by kernel_rfl) (by kernel_rfl) ?_
                    repeat (first | go_big_quiet_skip | (go_big_quiet_want; go_big_quiet_op; first | go_big_quiet_on | (apply Exists.intro; refine ⟨fun _ => ?_, ?_⟩; (fail); (try rw [h1]); (try rw [h2]); (try rw [h3]); (try rw [h4]); (try rw [p1]); (try rw [p2]); (try rw [p3]); (try rw [p4]); (try rw [r1]); (try rw [r2]); (try rw [r3]); (try rw [r4]); (try rw [r5]); (try rw [r6]); (try rw [q3]); (try rw [q4]); (try rw [hp]); (try rw [hq]); go_big_quiet_on)))
                    refine wpQuiet_nil ?_
                    rintro _ ⟨tq, rfl⟩))
              refine bodyPost_ret (v := .tuple #[.agg #[.int .i64 m.c, .int .i64 m.w], v']) (by simp [results, Try.results78, go_sem, cM0, cM1, cR0, cR1, lM, lR, hMR, hRM]) rfl ?_
              have hsV := HCV.out.size
              have hBn : ∀ b ∈ B', w.heap.size ≤ b ∧ R < b := fun b hb => by
                rcases HROVb.out with h | h
                · subst h; have := HB.out b hb; omega
                · subst h
                  obtain rfl := List.mem_singleton.1 hb
                  exact ⟨Nat.le_trans hsV (by (try simp [go_sem]) <;> (try simp [Xt.add]) <;> omega), Nat.lt_of_lt_of_le lRV (by (try simp [go_sem]) <;> (try simp [Xt.add]) <;> omega)⟩
              refine ⟨m, v', xs ++ [g], rfl, HM.out, ⟨B', HROV'.out.chg (B' := [R]) zq1 (fun b hb => by have := (hBn b hb).2; simp; omega), fun b hb => (hBn b hb).1⟩, by simp; omega, ((HRV.out.chg HCB.out (fun b hb => by have := HB.out b hb; omega) (Nat.le_refl _)).chg (B := [R]) zq1 (by simp; omega) (Nat.le_refl _)).up (by omega), Chg.fin (B := R :: B) (((HCV.out.mono (B' := p :: R :: B) (by simp)).trans (HCB.out.mono (by simp; intro b hb; exact .inr (.inr hb)))).trans zq1) (fun b hb => ?_)⟩
              rcases List.mem_cons.1 hb with rfl | hb
              · exact hwR
              · have := HB.out b hb; omega
            · have g9 : (v == 0) = false := beq_f hv
              clear hv
              try go_wp2_with (first
                  | fail
                  | (
                    with_reducible refine wp_region_mix (by kernel_rfl) (by decide +kernel) ?_
                    repeat (first
                      | (refine mix_pure rfl ?_; (first | go_big_quiet_skip | (go_big_quiet_want; go_big_quiet_op; go_big_quiet_on)); refine wpQuiet_nil ?_)
                      | (refine mix_skip (by rfl) ?_; (try simp only [Act.put, List.setIfInBounds_toArray, List.set_cons_zero, List.set_cons_succ]))
                      | (refine mix_mk rfl (by rfl) (fun K hK => ?_); (first | (go_simp; first | skip)); (show K _ _); refine hK _ _ (show Ext _ _ from zq0) ?_; clear hK K; (try simp only [Act.put, List.setIfInBounds_toArray, List.set_cons_zero, List.set_cons_succ])))
                    refine mix_nil ?_)
                  | (
                    with_reducible refine wp_region_ext (by kernel_rfl) (by kernel_rfl) ?_
                    repeat (first | go_big_quiet_skip | (go_big_quiet_want; go_big_quiet_op; first | go_big_quiet_on | (apply Exists.intro; refine ⟨fun _ => ?_, ?_⟩; (fail); (try rw [h1]); (try rw [h2]); (try rw [h3]); (try rw [h4]); (try rw [p1]); (try rw [p2]); (try rw [p3]); (try rw [p4]); (try rw [r1]); (try rw [r2]); (try rw [r3]); (try rw [r4]); (try rw [r5]); (try rw [r6]); (try rw [q3]); (try rw [q4]); (try rw [hp]); (try rw [hq]); go_big_quiet_on)))
                    refine wpQuiet_nil ?_
                    rintro _ ⟨tq, rfl⟩))
              refine bodyPost_ret (v := .tuple #[.agg #[.int .i64 m.c, .int .i64 m.w], .slice a xs.length c]) (by simp [results, Try.results78, go_sem, cM0, cM1, cR0, cR1, lM, lR, hMR, hRM]) rfl ?_
              refine ⟨m, _, xs, rfl, HM.out, ⟨B, HROT.out.chg (B' := [R]) zq1 (fun b hb => by have := HB.out b hb; simp; omega), fun b hb => by have := HB.out b hb; omega⟩, by omega, (HRT.out.chg (B := [R]) zq1 (by simp; omega) (Nat.le_refl _)).up (by omega), Chg.fin (B := [R]) ((HCT.out.mono (B' := [p, R]) (by simp)).trans zq1) (by simp; omega)⟩
      · have g : (v == 0) = false := beq_f hv
        clear hv
        try go_wp2_with (first
            | fail
            | (
              with_reducible refine wp_region_mix (by kernel_rfl) (by decide +kernel) ?_
              repeat (first
                | (refine mix_pure rfl ?_; (first | go_big_quiet_skip | (go_big_quiet_want; go_big_quiet_op; go_big_quiet_on)); refine wpQuiet_nil ?_)
                | (refine mix_skip (by rfl) ?_; (try simp only [Act.put, List.setIfInBounds_toArray, List.set_cons_zero, List.set_cons_succ]))
                | (refine mix_mk rfl (by rfl) (fun K hK => ?_); (first | (go_simp; first | skip)); (show K _ _); refine hK _ _ (show Ext _ _ from zq0) ?_; clear hK K; (try simp only [Act.put, List.setIfInBounds_toArray, List.set_cons_zero, List.set_cons_succ])))
              refine mix_nil ?_)
            | (
              with_reducible refine wp_region_ext (by kernel_rfl) (by kernel_rfl) ?_
              repeat (first | go_big_quiet_skip | (go_big_quiet_want; go_big_quiet_op; first | go_big_quiet_on | (apply Exists.intro; refine ⟨fun _ => ?_, ?_⟩; (fail); (try rw [h1]); (try rw [h2]); (try rw [h3]); (try rw [h4]); (try rw [p1]); (try rw [p2]); (try rw [p3]); (try rw [p4]); (try rw [r1]); (try rw [r2]); (try rw [r3]); (try rw [r4]); (try rw [r5]); (try rw [r6]); (try rw [q3]); (try rw [q4]); (try rw [hp]); (try rw [hq]); go_big_quiet_on)))
              refine wpQuiet_nil ?_
              rintro _ ⟨tq, rfl⟩))
        refine (pick_c lo p _ n Z HRY.out (by omega) (by omega) (by omega)).mono ?_
        rintro e Z3 ⟨v, rfl, hv0, hv1, hRZ, hCZ⟩
        have HROT := hid (HROZ.out.chg hCZ (fun b hb => by have := HB.out b hb; simp; omega))
        have HRT := hid hRZ
        have HCT := hid (HCY.out.trans hCZ)
        obtain ⟨_, hbM, rfl⟩ := (HHY.out.chg hCZ (by simp; omega)).at (.head _)
        obtain ⟨_, hbR, rfl⟩ := (HHY.out.chg hCZ (by simp; omega)).at (.tail _ (.head _))
        have cM0 : Z3.cell? ⟨M, 0, none⟩ = some (.int .i64 m.c) := (cell_blk hbM 0).trans rfl
        have cM1 : Z3.cell? ⟨M, 1, none⟩ = some (.int .i64 m.w) := (cell_blk hbM 1).trans rfl
        have cR0 : Z3.cell? ⟨R, 0, none⟩ = some (.int .i64 0) := (cell_blk hbR 0).trans rfl
        have cR1 : Z3.cell? ⟨R, 1, none⟩ = some (.int .i64 0) := (cell_blk hbR 1).trans rfl
        have zR0 := frozen_blk hbR 0
        have zR1 := frozen_blk hbR 1
        have lM := lt_blk hbM
        have lR := lt_blk hbR
        have HBM := hid hbM
        have HBR := hid hbR
        clear hRZ hCZ HROZ HRY HCY HHY hbM hbR
        by_cases hv : v = 0
        · subst hv
          clear hv0 hv1
          try go_wp2_with (first
              | fail
              | (
                with_reducible refine wp_region_mix (by kernel_rfl) (by decide +kernel) ?_
                repeat (first
                  | (refine mix_pure rfl ?_; (first | go_big_quiet_skip | (go_big_quiet_want; go_big_quiet_op; go_big_quiet_on)); refine wpQuiet_nil ?_)
                  | (refine mix_skip (by rfl) ?_; (try simp only [Act.put, List.setIfInBounds_toArray, List.set_cons_zero, List.set_cons_succ]))
                  | (refine mix_mk rfl (by rfl) (fun K hK => ?_); (first | (go_simp; first | skip)); (show K _ _); refine hK _ _ (show Ext _ _ from zq0) ?_; clear hK K; (try simp only [Act.put, List.setIfInBounds_toArray, List.set_cons_zero, List.set_cons_succ])))
                refine mix_nil ?_)
              | (
                with_reducible refine wp_region_ext (by kernel_rfl) (by kernel_rfl) ?_
                repeat (first | go_big_quiet_skip | (go_big_quiet_want; go_big_quiet_op; first | go_big_quiet_on | (apply Exists.intro; refine ⟨fun _ => ?_, ?_⟩; (fail); (try rw [h1]); (try rw [h2]); (try rw [h3]); (try rw [h4]); (try rw [p1]); (try rw [p2]); (try rw [p3]); (try rw [p4]); (try rw [r1]); (try rw [r2]); (try rw [r3]); (try rw [r4]); (try rw [r5]); (try rw [r6]); (try rw [q3]); (try rw [q4]); (try rw [hp]); (try rw [hq]); go_big_quiet_on)))
                refine wpQuiet_nil ?_
                rintro _ ⟨tq, rfl⟩))
          refine (l21Ghost_c lo p _ m Z3 HRT.out (by omega) HM.out).mono ?_
          rintro e V ⟨g, rfl, hRV, hCV⟩
          have HROV := hid (HROT.out.chg hCV (fun b hb => by have := HB.out b hb; simp; omega))
          have HRV := hid hRV
          have HCV := hid (HCT.out.trans hCV)
          have HBMV := hid ((hCV.block M lM (by simpa using hMp)).trans HBM.out)
          have HBRV := hid ((hCV.block R lR (by simpa using hRp)).trans HBR.out)
          have lMV := lt_blk HBMV.out
          have lRV := lt_blk HBRV.out
          clear hRV hCV HROT HRT HCT HBM HBR cM0 cM1 cR0 cR1 zR0 zR1 lM lR
          try go_wp2_with (first
              | (((with_reducible refine app_gate ?_); (refine wpList_appXK (cells := Gst.cells) (k := 7) (bytes := 56) (z := .agg #[.int .i64 0, .int .i64 0, .int .i64 0, .int .i64 0, .int .i64 0, .int .i64 0, .int .i64 0]) Try.underlying69 (by kernel_rfl) rfl (by decide) (by decide) (fun _ => rfl) (fun x u hu => by simp only [Gst.cells, List.mem_cons, List.not_mem_nil, or_false] at hu; rcases hu with rfl | rfl | rfl | rfl | rfl | rfl | rfl <;> rfl) rfl _ _ rfl rfl (xs := xs) (HROV.out.of zq0) (g) rfl (alloc_last (by (try simp [go_sem]) <;> (try simp [Xt.add]) <;> omega)) (by omega) ?_); intro v' w' B' h1 h2 h3; have HROV' := hid h1; have HROVc := hid h2; have HROVb := hid h3; clear h1 h2 h3); have hchB : Chg B V w' := (Chg.trans zq1 HROVc.out); have hbM := (hchB.block M lMV (fun hb => by have := HB.out M hb; omega)).trans HBMV.out; have hbR := (hchB.block R lRV (fun hb => by have := HB.out R hb; omega)).trans HBRV.out; have cM0 : w'.cell? ⟨M, 0, none⟩ = some (.int .i64 m.c) := (cell_blk hbM 0).trans rfl; have cM1 : w'.cell? ⟨M, 1, none⟩ = some (.int .i64 m.w) := (cell_blk hbM 1).trans rfl; have cR0 : w'.cell? ⟨R, 0, none⟩ = some (.int .i64 0) := (cell_blk hbR 0).trans rfl; have cR1 : w'.cell? ⟨R, 1, none⟩ = some (.int .i64 0) := (cell_blk hbR 1).trans rfl; have zR0 := frozen_blk hbR 0; have zR1 := frozen_blk hbR 1; have lM := lt_blk hbM; have lR := lt_blk hbR; have HCB := hid hchB; clear hchB hbM hbR)
              | (
                with_reducible refine wp_region_mix (by kernel_rfl) (by decide +kernel) ?_
                repeat (first
                  | (refine mix_pure rfl ?_; (first | go_big_quiet_skip | (go_big_quiet_want; go_big_quiet_op; go_big_quiet_on)); refine wpQuiet_nil ?_)
                  | (refine mix_skip (by rfl) ?_; (try simp only [Act.put, List.setIfInBounds_toArray, List.set_cons_zero, List.set_cons_succ]))
                  | (refine mix_mk rfl (by rfl) (fun K hK => ?_); (first | (go_simp; first | (((with_reducible refine app_gate ?_); (refine wpList_appXK (cells := Gst.cells) (k := 7) (bytes := 56) (z := .agg #[.int .i64 0, .int .i64 0, .int .i64 0, .int .i64 0, .int .i64 0, .int .i64 0, .int .i64 0]) Try.underlying69 (by kernel_rfl) rfl (by decide) (by decide) (fun _ => rfl) (fun x u hu => by simp only [Gst.cells, List.mem_cons, List.not_mem_nil, or_false] at hu; rcases hu with rfl | rfl | rfl | rfl | rfl | rfl | rfl <;> rfl) rfl _ _ rfl rfl (xs := xs) (HROV.out.of zq0) (g) rfl (alloc_last (by (try simp [go_sem]) <;> (try simp [Xt.add]) <;> omega)) (by omega) ?_); intro v' w' B' h1 h2 h3; have HROV' := hid h1; have HROVc := hid h2; have HROVb := hid h3; clear h1 h2 h3); have hchB : Chg B V w' := (Chg.trans zq1 HROVc.out); have hbM := (hchB.block M lMV (fun hb => by have := HB.out M hb; omega)).trans HBMV.out; have hbR := (hchB.block R lRV (fun hb => by have := HB.out R hb; omega)).trans HBRV.out; have cM0 : w'.cell? ⟨M, 0, none⟩ = some (.int .i64 m.c) := (cell_blk hbM 0).trans rfl; have cM1 : w'.cell? ⟨M, 1, none⟩ = some (.int .i64 m.w) := (cell_blk hbM 1).trans rfl; have cR0 : w'.cell? ⟨R, 0, none⟩ = some (.int .i64 0) := (cell_blk hbR 0).trans rfl; have cR1 : w'.cell? ⟨R, 1, none⟩ = some (.int .i64 0) := (cell_blk hbR 1).trans rfl; have zR0 := frozen_blk hbR 0; have zR1 := frozen_blk hbR 1; have lM := lt_blk hbM; have lR := lt_blk hbR; have HCB := hid hchB; clear hchB hbM hbR) | skip)); (show K _ _); refine hK _ _ (show Ext _ _ from zq0) ?_; clear hK K; (try simp only [Act.put, List.setIfInBounds_toArray, List.set_cons_zero, List.set_cons_succ])))
                refine mix_nil ?_)
              | (
                with_reducible refine wp_region_ext (by kernel_rfl) (by kernel_rfl) ?_
                repeat (first | go_big_quiet_skip | (go_big_quiet_want; go_big_quiet_op; first | go_big_quiet_on | (apply Exists.intro; refine ⟨fun _ => ?_, ?_⟩; (fail); (try rw [h1]); (try rw [h2]); (try rw [h3]); (try rw [h4]); (try rw [p1]); (try rw [p2]); (try rw [p3]); (try rw [p4]); (try rw [r1]); (try rw [r2]); (try rw [r3]); (try rw [r4]); (try rw [r5]); (try rw [r6]); (try rw [q3]); (try rw [q4]); (try rw [hp]); (try rw [hq]); go_big_quiet_on)))
                refine wpQuiet_nil ?_
                rintro _ ⟨tq, rfl⟩))
          refine bodyPost_ret (v := .tuple #[.agg #[.int .i64 m.c, .int .i64 m.w], v']) (by simp [results, Try.results78, go_sem, cM0, cM1, cR0, cR1, lM, lR, hMR, hRM]) rfl ?_
          have hsV := HCV.out.size
          have hBn : ∀ b ∈ B', w.heap.size ≤ b ∧ R < b := fun b hb => by
            rcases HROVb.out with h | h
            · subst h; have := HB.out b hb; omega
            · subst h
              obtain rfl := List.mem_singleton.1 hb
              exact ⟨Nat.le_trans hsV (by (try simp [go_sem]) <;> (try simp [Xt.add]) <;> omega), Nat.lt_of_lt_of_le lRV (by (try simp [go_sem]) <;> (try simp [Xt.add]) <;> omega)⟩
          refine ⟨m, v', xs ++ [g], rfl, HM.out, ⟨B', HROV'.out.chg (B' := [R]) zq1 (fun b hb => by have := (hBn b hb).2; simp; omega), fun b hb => (hBn b hb).1⟩, by simp; omega, ((HRV.out.chg HCB.out (fun b hb => by have := HB.out b hb; omega) (Nat.le_refl _)).chg (B := [R]) zq1 (by simp; omega) (Nat.le_refl _)).up (by omega), Chg.fin (B := R :: B) (((HCV.out.mono (B' := p :: R :: B) (by simp)).trans (HCB.out.mono (by simp; intro b hb; exact .inr (.inr hb)))).trans zq1) (fun b hb => ?_)⟩
          rcases List.mem_cons.1 hb with rfl | hb
          · exact hwR
          · have := HB.out b hb; omega
        · have g9 : (v == 0) = false := beq_f hv
          clear hv
          try go_wp2_with (first
              | fail
              | (
                with_reducible refine wp_region_mix (by kernel_rfl) (by decide +kernel) ?_
                repeat (first
                  | (refine mix_pure rfl ?_; (first | go_big_quiet_skip | (go_big_quiet_want; go_big_quiet_op; go_big_quiet_on)); refine wpQuiet_nil ?_)
                  | (refine mix_skip (by rfl) ?_; (try simp only [Act.put, List.setIfInBounds_toArray, List.set_cons_zero, List.set_cons_succ]))
                  | (refine mix_mk rfl (by rfl) (fun K hK => ?_); (first | (go_simp; first | skip)); (show K _ _); refine hK _ _ (show Ext _ _ from zq0) ?_; clear hK K; (try simp only [Act.put, List.setIfInBounds_toArray, List.set_cons_zero, List.set_cons_succ])))
                refine mix_nil ?_)
              | (
                with_reducible refine wp_region_ext (by kernel_rfl) (by kernel_rfl) ?_
                repeat (first | go_big_quiet_skip | (go_big_quiet_want; go_big_quiet_op; first | go_big_quiet_on | (apply Exists.intro; refine ⟨fun _ => ?_, ?_⟩; (fail); (try rw [h1]); (try rw [h2]); (try rw [h3]); (try rw [h4]); (try rw [p1]); (try rw [p2]); (try rw [p3]); (try rw [p4]); (try rw [r1]); (try rw [r2]); (try rw [r3]); (try rw [r4]); (try rw [r5]); (try rw [r6]); (try rw [q3]); (try rw [q4]); (try rw [hp]); (try rw [hq]); go_big_quiet_on)))
                refine wpQuiet_nil ?_
                rintro _ ⟨tq, rfl⟩))
          refine bodyPost_ret (v := .tuple #[.agg #[.int .i64 m.c, .int .i64 m.w], .slice a xs.length c]) (by simp [results, Try.results78, go_sem, cM0, cM1, cR0, cR1, lM, lR, hMR, hRM]) rfl ?_
          refine ⟨m, _, xs, rfl, HM.out, ⟨B, HROT.out.chg (B' := [R]) zq1 (fun b hb => by have := HB.out b hb; simp; omega), fun b hb => by have := HB.out b hb; omega⟩, by omega, (HRT.out.chg (B := [R]) zq1 (by simp; omega) (Nat.le_refl _)).up (by omega), Chg.fin (B := [R]) ((HCT.out.mono (B' := [p, R]) (by simp)).trans zq1) (by simp; omega)⟩
end Go.Proofs.Ytbbpipbemhggdaa

namespace Go.Proofs.Ytbbpipbemhggdaa
open Go.RowKit
set_option linter.unusedSimpArgs false
set_option linter.unusedVariables false

theorem gst_set1 {w : World} {R : Nat} {x0 : Gst} {v : Int} (h : w.heap[R]? = some (oGst x0)) : (w.setCell ⟨R, 1, none⟩ (.int .i64 v)).heap[R]? = some (oGst { x0 with count := v }) := by
  refine Eq.trans (blk_set h) ?_
  simp only [List.setIfInBounds_toArray, List.set_cons_zero, List.set_cons_succ, oGst]
theorem gst_set4 {w : World} {R : Nat} {x0 : Gst} {v : Int} (h : w.heap[R]? = some (oGst x0)) : (w.setCell ⟨R, 4, none⟩ (.int .i64 v)).heap[R]? = some (oGst { x0 with wk := { x0.wk with coins := v } }) := by
  refine Eq.trans (blk_set h) ?_
  simp only [List.setIfInBounds_toArray, List.set_cons_zero, List.set_cons_succ, oGst]
theorem Ext.chgB {w X Z : World} {B : List Nat} (h : Ext w X) (hc : Chg B X Z) (hB : ∀ b ∈ B, w.heap.size ≤ b) : Ext w Z := Ext.of_below (Below.chg (w0 := w) h.below hc hB)
set_option maxRecDepth 100000 in
set_option maxHeartbeats 8000000 in
theorem DrawGstPut_c (n c : Nat) (a : Option Addr) (w : World) (hB : Bytes w.heap.size w a n) (hc : n ≤ c) :
    Calls Try.prog 47 #[.slice a n c] w fun e w' => ∃ (m : Mp) (v : Value) (xs : List Gst) (g : Gst), e = .returned (.tuple #[.agg #[.int .i64 m.c, .int .i64 m.w], v, .agg #[.int .i64 g.src, .int .i64 g.count, .int .i64 g.wk.id, .int .i64 g.wk.at_, .int .i64 g.wk.coins, .int .i64 g.wk.seq, .int .i64 g.wk.last]]) ∧ LstG w.heap.size w' v xs ∧ xs.length ≤ 22 ∧ Ext w w' := by
  have HB := hid hB
  clear hB
  go_enter Try.func47, Try.ntmps47
  try go_wp2_with (first
      | (go_at_call 54; refine (l20Open_c w.heap.size n c a _ (HB.out.chg (B := []) (Chg.of_ext zq0 []) (by simp) (Nat.le_refl _)) (by (try simp [go_sem]) <;> (try simp [Xt.add]) <;> omega) hc).mono ?_; rintro e w1 ⟨rfl, hR, hE⟩; have HR := hid hR; have HE := hid hE; clear hR hE)
      | (
        with_reducible refine wp_region_mix (by kernel_rfl) (by decide +kernel) ?_
        repeat (first
          | (refine mix_pure rfl ?_; (first | go_big_quiet_skip | (go_big_quiet_want; go_big_quiet_op; go_big_quiet_on)); refine wpQuiet_nil ?_)
          | (refine mix_skip (by rfl) ?_; (try simp only [Act.put, List.setIfInBounds_toArray, List.set_cons_zero, List.set_cons_succ]))
          | (refine mix_mk rfl (by rfl) (fun K hK => ?_); (first | (go_simp; first | (go_at_call 54; refine (l20Open_c w.heap.size n c a _ (HB.out.chg (B := []) (Chg.of_ext zq0 []) (by simp) (Nat.le_refl _)) (by (try simp [go_sem]) <;> (try simp [Xt.add]) <;> omega) hc).mono ?_; rintro e w1 ⟨rfl, hR, hE⟩; have HR := hid hR; have HE := hid hE; clear hR hE) | skip)); (show K _ _); refine hK _ _ (show Ext _ _ from zq0) ?_; clear hK K; (try simp only [Act.put, List.setIfInBounds_toArray, List.set_cons_zero, List.set_cons_succ])))
        refine mix_nil ?_)
      | (
        with_reducible refine wp_region_ext (by kernel_rfl) (by kernel_rfl) ?_
        repeat (first | go_big_quiet_skip | (go_big_quiet_want; go_big_quiet_op; first | go_big_quiet_on | (apply Exists.intro; refine ⟨fun _ => ?_, ?_⟩; (fail); (try rw [h1]); (try rw [h2]); (try rw [h3]); (try rw [h4]); (try rw [p1]); (try rw [p2]); (try rw [p3]); (try rw [p4]); (try rw [r1]); (try rw [r2]); (try rw [r3]); (try rw [r4]); (try rw [r5]); (try rw [r6]); (try rw [q3]); (try rw [q4]); (try rw [hp]); (try rw [hq]); go_big_quiet_on)))
        refine wpQuiet_nil ?_
        rintro _ ⟨tq, rfl⟩))
  obtain ⟨R, hRe⟩ : ∃ R, w.heap.size = R := ⟨_, rfl⟩
  obtain ⟨T, hTe⟩ : ∃ T, w.heap.size + 1 = T := ⟨_, rfl⟩
  obtain ⟨p, hp⟩ : ∃ p, w.heap.size + 1 + 1 = p := ⟨_, rfl⟩
  have hR1 := HR.out
  have hE1 := HE.out
  have e1 : ((w.alloc (Obj.cells #[.int .i64 0, .int .i64 0] 24)).alloc (Obj.cells #[.int .i64 0, .int .i64 0, .int .i64 0, .int .i64 0, .int .i64 0, .int .i64 0, .int .i64 0] 71)).heap.size = p := by rw [← hp]; simp
  rw [e1, hRe] at hR1
  have bR : w1.heap[R]? = some (oMp ⟨0, 0⟩) := (hE1.block (by rw [e1]; omega)).trans (by rw [← hRe]; exact zq3)
  have bT : w1.heap[T]? = some (oGst ⟨0, 0, ⟨0, 0, 0, 0, 0⟩⟩) := (hE1.block (by rw [e1]; omega)).trans (by rw [← hTe]; exact zq3)
  have HE1 := hid (show Ext w w1 from (((Ext.refl w).alloc _).alloc _).trans hE1)
  have HR1 := hid hR1
  rw [hp, hTe, hRe]
  have hRp : R ≠ p := by omega
  have hTp : T ≠ p := by omega
  have hRT : R ≠ T := by omega
  have hRT2 : R ≤ T := by omega
  have hwR : w.heap.size ≤ R := by omega
  have hwT : w.heap.size ≤ T := by omega
  have hwp : w.heap.size ≤ p := by omega
  have hlo : R ≤ p := by omega
  have lR1 := lt_blk bR
  have lT1 := lt_blk bT
  have lp1 := HR1.out.lt
  have hww1 := HE1.out.size
  clear hRe hTe hp hR1 hE1 e1 HR HE
  refine (l21Ghosts_c R p 0 16 w1 HR1.out (by omega) (by omega) (by omega)).mono ?_
  rintro e Y ⟨m, v, xs, rfl, hm, ⟨B, hrow, hB⟩, hxl, hRY, hCY⟩
  obtain ⟨a9, c9, rfl⟩ := hrow.slice
  have HM := hid hm
  have HB1 := hid hB
  have bR := (hCY.block R lR1 (by simpa using hRp)).trans bR
  have bT := (hCY.block T lT1 (by simpa using hTp)).trans bT
  have HRY := hid hRY
  have HEY := hid (HE1.out.chgB hCY (by simp; omega))
  have HRO := hid hrow
  have hsY := hCY.size
  have hBlt := hid hrow.lt
  have HXL := hid hxl
  clear hm hB hRY hCY hrow HR1 HE1
  try go_wp2_with (first
      | fail
      | (
        with_reducible refine wp_region_mix (by kernel_rfl) (by decide +kernel) ?_
        repeat (first
          | (refine mix_pure rfl ?_; (first | go_big_quiet_skip | (go_big_quiet_want; go_big_quiet_op; go_big_quiet_on)); refine wpQuiet_nil ?_)
          | (refine mix_skip (by rfl) ?_; (try simp only [Act.put, List.setIfInBounds_toArray, List.set_cons_zero, List.set_cons_succ]))
          | (refine mix_mk rfl (by rfl) (fun K hK => ?_); (first | (go_simp; first | skip)); (show K _ _); refine hK _ _ (show Ext _ _ from zq0) ?_; clear hK K; (try simp only [Act.put, List.setIfInBounds_toArray, List.set_cons_zero, List.set_cons_succ])))
        refine mix_nil ?_)
      | (
        with_reducible refine wp_region_ext (by kernel_rfl) (by kernel_rfl) ?_
        repeat (first | go_big_quiet_skip | (go_big_quiet_want; go_big_quiet_op; first | go_big_quiet_on | (apply Exists.intro; refine ⟨fun _ => ?_, ?_⟩; (fail); (try rw [h1]); (try rw [h2]); (try rw [h3]); (try rw [h4]); (try rw [p1]); (try rw [p2]); (try rw [p3]); (try rw [p4]); (try rw [r1]); (try rw [r2]); (try rw [r3]); (try rw [r4]); (try rw [r5]); (try rw [r6]); (try rw [q3]); (try rw [q4]); (try rw [hp]); (try rw [hq]); go_big_quiet_on)))
        refine wpQuiet_nil ?_
        rintro _ ⟨tq, rfl⟩))
  refine calls_gen fun X hX => ?_
  obtain ⟨M, hMe⟩ : ∃ M, Y.heap.size = M := ⟨_, rfl⟩
  have EX : Ext Y X := by rw [hX]; ((try simp only [ext_drew]); (try simp only [ext_ext]); repeat (first | exact Ext.refl _ | with_reducible apply Ext.add | with_reducible apply Ext.dr | apply Ext.alloc | apply Ext.ext | apply Ext.drew | refine Ext.trans ?_ (by assumption)))
  have bM : X.heap[M]? = some (oMp m) := by rw [hX, ← hMe]; exact zq3
  have bR := (EX.block (lt_blk bR)).trans bR
  have bT := (EX.block (lt_blk bT)).trans bT
  have HRX := hid (HRY.out.of EX)
  have HEX := hid (HEY.out.trans EX)
  have HRO := hid (HRO.out.of EX)
  rw [hMe]
  have hb1M : w1.heap.size ≤ M := by omega
  have HB1 := hid (show ∀ b ∈ B, w1.heap.size ≤ b ∧ b < M from fun b hb => ⟨HB1.out b hb, by have := hBlt.out b hb; omega⟩)
  have hMR : M ≠ R := by omega
  have hMT : M ≠ T := by omega
  have hMp : M ≠ p := by omega
  have hwM : w.heap.size ≤ M := by omega
  clear hX EX hMe HRY HEY
  refine (l21Ghost_c R p _ m X HRX.out (by omega) HM.out).mono ?_
  rintro e Z ⟨g, rfl, hRZ, hCZ⟩
  have bM := (hCZ.block M (lt_blk bM) (by simpa using hMp)).trans bM
  have bR := (hCZ.block R (lt_blk bR) (by simpa using hRp)).trans bR
  have bT := (hCZ.block T (lt_blk bT) (by simpa using hTp)).trans bT
  have HRO := hid (HRO.out.chg hCZ (fun b hb => by have := HB1.out b hb; simp; omega))
  have HRZ := hid hRZ
  have HEZ := hid (HEX.out.chgB hCZ (by simp; omega))
  have lMZ := lt_blk bM
  have hZs : M < Z.heap.size := lMZ
  clear hRZ hCZ HRX HEX
  by_cases hx0 : 0 < xs.length
  · obtain ⟨xl, hx1⟩ : ∃ x, xs.length = x := ⟨_, rfl⟩
    rw [hx1] at hx0 HRO hxl ⊢
    have HX1 := hid hx1
    clear hx1
    try go_wp2_with (first
        | fail
        | (
          with_reducible refine wp_region_mix (by kernel_rfl) (by decide +kernel) ?_
          repeat (first
            | (refine mix_pure rfl ?_; (first | go_big_quiet_skip | (go_big_quiet_want; go_big_quiet_op; go_big_quiet_on)); refine wpQuiet_nil ?_)
            | (refine mix_skip (by rfl) ?_; (try simp only [Act.put, List.setIfInBounds_toArray, List.set_cons_zero, List.set_cons_succ]))
            | (refine mix_mk rfl (by rfl) (fun K hK => ?_); (first | (go_simp; first | skip)); (show K _ _); refine hK _ _ (show Ext _ _ from zq0) ?_; clear hK K; (try simp only [Act.put, List.setIfInBounds_toArray, List.set_cons_zero, List.set_cons_succ])))
          refine mix_nil ?_)
        | (
          with_reducible refine wp_region_ext (by kernel_rfl) (by kernel_rfl) ?_
          repeat (first | go_big_quiet_skip | (go_big_quiet_want; go_big_quiet_op; first | go_big_quiet_on | (apply Exists.intro; refine ⟨fun _ => ?_, ?_⟩; (fail); (try rw [h1]); (try rw [h2]); (try rw [h3]); (try rw [h4]); (try rw [p1]); (try rw [p2]); (try rw [p3]); (try rw [p4]); (try rw [r1]); (try rw [r2]); (try rw [r3]); (try rw [r4]); (try rw [r5]); (try rw [r6]); (try rw [q3]); (try rw [q4]); (try rw [hp]); (try rw [hq]); go_big_quiet_on)))
          refine wpQuiet_nil ?_
          rintro _ ⟨tq, rfl⟩))
    refine calls_gen fun X hX => ?_
    obtain ⟨G, hGe⟩ : ∃ G, Z.heap.size = G := ⟨_, rfl⟩
    have EX : Ext Z X := by rw [hX]; ((try simp only [ext_drew]); (try simp only [ext_ext]); repeat (first | exact Ext.refl _ | with_reducible apply Ext.add | with_reducible apply Ext.dr | apply Ext.alloc | apply Ext.ext | apply Ext.drew | refine Ext.trans ?_ (by assumption)))
    have bG : X.heap[G]? = some (oGst g) := by rw [hX, ← hGe]; exact zq3
    have HHZ := hid (show Held [(G, IsGst), (M, fun o => o = oMp m), (R, IsMp), (T, IsGst)] X from Held.cons bG ⟨_, rfl⟩ (Held.cons ((EX.block lMZ).trans bM) rfl (Held.cons ((EX.block (lt_blk bR)).trans bR) ⟨_, rfl⟩ (Held.cons ((EX.block (lt_blk bT)).trans bT) ⟨_, rfl⟩ Held.nil))))
    have HLZ := hid (HRO.out.of EX)
    have hsR := lt_blk bR
    have hsT := lt_blk bT
    have hsp := HRZ.out.lt
    have HRZ := hid (HRZ.out.of EX)
    have HCZ := hid (HEZ.out.trans EX)
    rw [hGe]
    have hGR : G ≠ R := by omega
    have hGT : G ≠ T := by omega
    have hGM : G ≠ M := by omega
    have hGp : G ≠ p := by omega
    have hwG : w.heap.size ≤ G := by omega
    have hb1G : w1.heap.size ≤ G := by omega
    have hMG : M < G := by omega
    clear hX EX hGe bG bM bR bT HEZ HRO lMZ
    refine (pick_c R p _ 2 X HRZ.out (by omega) (by omega) (by omega)).mono ?_
    rintro e V2 ⟨v, rfl, hv0, hv1, hRV, hCV⟩
    have HHZ := hid (HHZ.out.chg hCV (by simp; omega))
    have HLZ := hid (HLZ.out.chg hCV (fun b hb => by have := HB1.out b hb; simp; omega))
    have HCZ := hid (HCZ.out.chgB hCV (by simp; omega))
    have HRZ := hid hRV
    clear hRV hCV
    by_cases hv : v = 0
    · subst hv
      clear hv0 hv1
      try go_wp2_with (first
          | fail
          | (
            with_reducible refine wp_region_mix (by kernel_rfl) (by decide +kernel) ?_
            repeat (first
              | (refine mix_pure rfl ?_; (first | go_big_quiet_skip | (go_big_quiet_want; go_big_quiet_op; go_big_quiet_on)); refine wpQuiet_nil ?_)
              | (refine mix_skip (by rfl) ?_; (try simp only [Act.put, List.setIfInBounds_toArray, List.set_cons_zero, List.set_cons_succ]))
              | (refine mix_mk rfl (by rfl) (fun K hK => ?_); (first | (go_simp; first | skip)); (show K _ _); refine hK _ _ (show Ext _ _ from zq0) ?_; clear hK K; (try simp only [Act.put, List.setIfInBounds_toArray, List.set_cons_zero, List.set_cons_succ])))
            refine mix_nil ?_)
          | (
            with_reducible refine wp_region_ext (by kernel_rfl) (by kernel_rfl) ?_
            repeat (first | go_big_quiet_skip | (go_big_quiet_want; go_big_quiet_op; first | go_big_quiet_on | (apply Exists.intro; refine ⟨fun _ => ?_, ?_⟩; (fail); (try rw [h1]); (try rw [h2]); (try rw [h3]); (try rw [h4]); (try rw [p1]); (try rw [p2]); (try rw [p3]); (try rw [p4]); (try rw [r1]); (try rw [r2]); (try rw [r3]); (try rw [r4]); (try rw [r5]); (try rw [r6]); (try rw [q3]); (try rw [q4]); (try rw [hp]); (try rw [hq]); go_big_quiet_on)))
            refine wpQuiet_nil ?_
            rintro _ ⟨tq, rfl⟩))
      refine (pick_c R p _ xl V2 HRZ.out (by omega) (by omega) (by omega)).mono ?_
      rintro e V3 ⟨v, rfl, hv0, hv1, hRV, hCV⟩
      have HHZ := hid (HHZ.out.chg hCV (by simp; omega))
      have HLZ := hid (HLZ.out.chg hCV (fun b hb => by have := HB1.out b hb; simp; omega))
      have HCZ := hid (HCZ.out.chgB hCV (by simp; omega))
      have HRZ := hid hRV
      clear hRV hCV
      obtain ⟨j, rfl⟩ : ∃ i : Nat, v = (i : Int) := ⟨v.toNat, by omega⟩
      have hj : j < xl := by omega
      have hj2 : (j : Int) < xl := by omega
      have hrow := HLZ.out
      obtain ⟨bq, cur, xe, hga, hBg, hnn, hnc, hxj, hb, hsz, hcell, hput⟩ := RowX.at (cells := Gst.cells) (k := 7) (j := j) (by decide) (fun _ => rfl) hrow (by have := HX1.out; omega)
      subst hga
      have ce0 : V3.cell? ⟨bq, j * 7, none⟩ = some (.int .i64 xe.src) := (cell_blk hb (j * 7)).trans (hcell 0 _ rfl)
      have ce1 : V3.cell? ⟨bq, j * 7 + 1, none⟩ = some (.int .i64 xe.count) := (cell_blk hb (j * 7 + 1)).trans (hcell 1 _ rfl)
      have ce2 : V3.cell? ⟨bq, j * 7 + 2, none⟩ = some (.int .i64 xe.wk.id) := (cell_blk hb (j * 7 + 2)).trans (hcell 2 _ rfl)
      have ce3 : V3.cell? ⟨bq, j * 7 + 3, none⟩ = some (.int .i64 xe.wk.at_) := (cell_blk hb (j * 7 + 3)).trans (hcell 3 _ rfl)
      have ce4 : V3.cell? ⟨bq, j * 7 + 4, none⟩ = some (.int .i64 xe.wk.coins) := (cell_blk hb (j * 7 + 4)).trans (hcell 4 _ rfl)
      have ce5 : V3.cell? ⟨bq, j * 7 + 5, none⟩ = some (.int .i64 xe.wk.seq) := (cell_blk hb (j * 7 + 5)).trans (hcell 5 _ rfl)
      have ce6 : V3.cell? ⟨bq, j * 7 + 6, none⟩ = some (.int .i64 xe.wk.last) := (cell_blk hb (j * 7 + 6)).trans (hcell 6 _ rfl)
      have le := lt_blk hb
      obtain ⟨_, hg, gq, rfl⟩ := HHZ.out.at (.head _)
      have cg0 : V3.cell? ⟨G, 0, none⟩ = some (.int .i64 gq.src) := (cell_blk hg 0).trans rfl
      have cg1 : V3.cell? ⟨G, 1, none⟩ = some (.int .i64 gq.count) := (cell_blk hg 1).trans rfl
      have cg2 : V3.cell? ⟨G, 2, none⟩ = some (.int .i64 gq.wk.id) := (cell_blk hg 2).trans rfl
      have cg3 : V3.cell? ⟨G, 3, none⟩ = some (.int .i64 gq.wk.at_) := (cell_blk hg 3).trans rfl
      have cg4 : V3.cell? ⟨G, 4, none⟩ = some (.int .i64 gq.wk.coins) := (cell_blk hg 4).trans rfl
      have cg5 : V3.cell? ⟨G, 5, none⟩ = some (.int .i64 gq.wk.seq) := (cell_blk hg 5).trans rfl
      have cg6 : V3.cell? ⟨G, 6, none⟩ = some (.int .i64 gq.wk.last) := (cell_blk hg 6).trans rfl
      have zcg0 := frozen_blk hg 0
      have zcg1 := frozen_blk hg 1
      have zcg2 := frozen_blk hg 2
      have zcg3 := frozen_blk hg 3
      have zcg4 := frozen_blk hg 4
      have zcg5 := frozen_blk hg 5
      have zcg6 := frozen_blk hg 6
      have lg := lt_blk hg
      have HBG := hid hg
      clear hrow hBg hnn hb hsz hcell hput hxj hg
      try go_wp2_with (first
          | fail
          | (
            with_reducible refine wp_region_mix (by kernel_rfl) (by decide +kernel) ?_
            repeat (first
              | (refine mix_pure rfl ?_; (first | go_big_quiet_skip | (go_big_quiet_want; go_big_quiet_op; go_big_quiet_on)); refine wpQuiet_nil ?_)
              | (refine mix_skip (by rfl) ?_; (try simp only [Act.put, List.setIfInBounds_toArray, List.set_cons_zero, List.set_cons_succ]))
              | (refine mix_mk rfl (by rfl) (fun K hK => ?_); (first | (go_simp; first | skip)); (show K _ _); refine hK _ _ (show Ext _ _ from zq0) ?_; clear hK K; (try simp only [Act.put, List.setIfInBounds_toArray, List.set_cons_zero, List.set_cons_succ])))
            refine mix_nil ?_)
          | (
            with_reducible refine wp_region_ext (by kernel_rfl) (by kernel_rfl) ?_
            repeat (first | go_big_quiet_skip | (go_big_quiet_want; go_big_quiet_op; first | go_big_quiet_on | (apply Exists.intro; refine ⟨fun _ => ?_, ?_⟩; (fail); (try rw [h1]); (try rw [h2]); (try rw [h3]); (try rw [h4]); (try rw [p1]); (try rw [p2]); (try rw [p3]); (try rw [p4]); (try rw [r1]); (try rw [r2]); (try rw [r3]); (try rw [r4]); (try rw [r5]); (try rw [r6]); (try rw [q3]); (try rw [q4]); (try rw [hp]); (try rw [hq]); go_big_quiet_on)))
            refine wpQuiet_nil ?_
            rintro _ ⟨tq, rfl⟩))
      refine wp_gen fun Y6 hY => ?_
      have hg6 : Y6.heap[G]? = some (oGst xe) := by rw [hY]; exact gst_store (x := xe) HBG.out
      have hch : Chg [G] V3 Y6 := by rw [hY]; exact zq1
      have HJ := hid (show Rdr R p 19000 Y6 ∧ Held [(G, IsGst), (M, fun o => o = oMp m), (R, IsMp), (T, IsGst)] Y6 from ⟨(HRZ.out.chg (B := [G]) hch (by simp; omega) (Nat.le_refl _)).up (by omega), HHZ.out.put hch hg6 (fun q hq hqR => by
        simp only [List.mem_cons, List.not_mem_nil, or_false] at hq
        rcases hq with rfl | rfl | rfl | rfl
        · exact ⟨_, rfl⟩
        · exact absurd hqR (by dsimp only; omega)
        · exact absurd hqR (by dsimp only; omega)
        · exact absurd hqR (by dsimp only; omega))⟩)
      have HCY := hid (HCZ.out.chgB hch (by simp; omega))
      have HLY := hid (HLZ.out.chg hch (fun b hb => by have := HB1.out b hb; simp; omega))
      obtain ⟨_, hb0, _⟩ := HJ.out.2.at (.head _)
      obtain ⟨_, hb1, _⟩ := HJ.out.2.at (.tail _ (.head _))
      obtain ⟨_, hb2, _⟩ := HJ.out.2.at (.tail _ (.tail _ (.head _)))
      obtain ⟨_, hb3, _⟩ := HJ.out.2.at (.tail _ (.tail _ (.tail _ (.head _))))
      have lG0 := lt_blk hb0
      have lM0 := lt_blk hb1
      have lR0 := lt_blk hb2
      have lT0 := lt_blk hb3
      have hpW := HJ.out.1.lt
      clear hY hch hg6 HRZ HCZ HHZ HLZ hb0 hb1 hb2 hb3 HBG ce0 ce1 ce2 ce3 ce4 ce5 ce6 cg0 cg1 cg2 cg3 cg4 cg5 cg6 zcg0 zcg1 zcg2 zcg3 zcg4 zcg5 zcg6 lg le
      refine wp_region_flowD [some 34, some 35, some 36, some 37, some 38, some 39, some 40, none] (fun a b => ChgT Y6.heap.size [p, G] (fun _ => False) a b) (fun i a b => match i with | 7 => Chg [G] a b | _ => Chg [p] a b) (fun k9 w9 => Rdr R p (19000 + 1 * k9) w9 ∧ Held [(G, IsGst), (M, fun o => o = oMp m), (R, IsMp), (T, IsGst)] w9) (fun i v9 w9 => match i with
        | 0 => v9 = .pointer (some ⟨G, 1, none⟩)
        | 1 => ∃ x : Int, v9 = .int .i64 x
        | 2 => v9 = .pointer (some ⟨p, 0, none⟩)
        | 3 => InI 0 (2) (v9)
        | 4 => ∃ x : Int, v9 = .int .i64 x
        | 5 => ∃ x : Int, v9 = .int .i64 x
        | 6 => v9 = .pointer (some ⟨G, 1, none⟩)
        | _ => BlkP G (fun o => ∃ x, o = oGst x ∧ True) w9) (by kernel_rfl) (by decide +kernel) (by simp) (fun a => ChgT.refl _ _ _ a) (fun a b c h k => ChgT.trans h k) ?_ (ChgT.of (Chg.drew (Chg.refl [] _)) (by simp)) ?_ ?_ ?_ ?_
      · intro i a b hi hG
        have hi9 : i < 8 := hi
        clear hi
        match i, hi9, hG with
        | 0, _, hG => exact ChgT.of hG (by simp; omega)
        | 1, _, hG => exact ChgT.of hG (by simp; omega)
        | 2, _, hG => exact ChgT.of hG (by simp; omega)
        | 3, _, hG => exact ChgT.of hG (by simp; omega)
        | 4, _, hG => exact ChgT.of hG (by simp; omega)
        | 5, _, hG => exact ChgT.of hG (by simp; omega)
        | 6, _, hG => exact ChgT.of hG (by simp; omega)
        | 7, _, hG => exact ChgT.of hG (by simp; omega)
        | n + 8, h9, _ => exact absurd h9 (by omega)
      · exact ⟨HJ.out.1.of zq0, HJ.out.2.drw⟩
      · intro i j hi hj hij v9 w9 w8 hg hS hG
        have hi9 : i < 8 := hi
        have hj9 : j < 8 := hj
        have hG0 := hG
        have hG2 : ChgT Y6.heap.size [p, G] (fun _ => False) w9 w8 := by
          clear hG0 hij hi hj hS
          match i, hi9, hG with
          | 0, _, hG => exact ChgT.of hG (by simp; omega)
          | 1, _, hG => exact ChgT.of hG (by simp; omega)
          | 2, _, hG => exact ChgT.of hG (by simp; omega)
          | 3, _, hG => exact ChgT.of hG (by simp; omega)
          | 4, _, hG => exact ChgT.of hG (by simp; omega)
          | 5, _, hG => exact ChgT.of hG (by simp; omega)
          | 6, _, hG => exact ChgT.of hG (by simp; omega)
          | 7, _, hG => exact ChgT.of hG (by simp; omega)
          | n + 8, h9, _ => exact absurd h9 (by omega)
        clear hi hj hG
        match j, hj9 with
        | 0, _ => exact hS
        | 1, _ => exact hS
        | 2, _ => exact hS
        | 3, _ => exact hS
        | 4, _ => exact hS
        | 5, _ => exact hS
        | 6, _ => exact hS
        | 7, _ =>
          match i, hi9, hG0, hij with
          | 0, _, hG, _ => exact BlkP.chg hS hG (by simp; omega)
          | 1, _, hG, _ => exact BlkP.chg hS hG (by simp; omega)
          | 2, _, hG, _ => exact BlkP.chg hS hG (by simp; omega)
          | 3, _, hG, _ => exact BlkP.chg hS hG (by simp; omega)
          | 4, _, hG, _ => exact BlkP.chg hS hG (by simp; omega)
          | 5, _, hG, _ => exact BlkP.chg hS hG (by simp; omega)
          | 6, _, hG, _ => exact BlkP.chg hS hG (by simp; omega)
          | 7, _, _, h9 => exact absurd rfl h9
          | n + 8, h9, _, _ => exact absurd h9 (by omega)
        | n + 8, h9 => exact absurd h9 (by omega)
      · intro i oo ho σ k9 w9 hG hk9 hJ hd
        have HG := hid hG
        have HJ9 := hid hJ
        have hW9 := hG.size
        have hkN : k9 < 8 := hk9
        have hi9 : i < 8 := (List.getElem?_eq_some_iff.1 ho).1
        clear hG hJ hk9
        match i, hi9, ho with
        | 0, _, ho =>
          obtain rfl := Option.some.inj ho
          clear hd ho
          simp only [actO, putO, List.setIfInBounds_toArray, List.set_cons_zero, List.set_cons_succ, Nat.reduceAdd]
          refine flow_K (fun K hK => ?_)
          go_simp
          (show K _ _)
          refine hK _ _ ⟨_, rfl, by simp, Chg.of_ext (show Ext _ _ from zq0) _, ⟨(HJ9.out.1.of (show Ext _ _ from zq0)).up (by omega), HJ9.out.2.of (show Ext _ _ from zq0)⟩, rfl⟩
        | 1, _, ho =>
          have e0 : σ 0 = .pointer (some ⟨G, 1, none⟩) := hd 0 (by obtain rfl := Option.some.inj ho; kernel_rfl)
          obtain ⟨_, hb, x0, rfl⟩ := HJ9.out.2.at (.head _)
          have cU := (cell_blk hb 1).trans rfl
          have zU := frozen_blk hb 1
          have lU := lt_blk hb
          obtain rfl := Option.some.inj ho
          clear hd ho
          simp only [actO, putO, List.setIfInBounds_toArray, List.set_cons_zero, List.set_cons_succ, Nat.reduceAdd, e0]
          refine flow_K (fun K hK => ?_)
          go_simp
          (show K _ _)
          refine hK _ _ ⟨_, rfl, by simp, Chg.of_ext (show Ext _ _ from zq0) _, ⟨(HJ9.out.1.of (show Ext _ _ from zq0)).up (by omega), HJ9.out.2.of (show Ext _ _ from zq0)⟩, ⟨_, rfl⟩⟩
        | 2, _, ho =>
          obtain rfl := Option.some.inj ho
          clear hd ho
          simp only [actO, putO, List.setIfInBounds_toArray, List.set_cons_zero, List.set_cons_succ, Nat.reduceAdd]
          refine flow_K (fun K hK => ?_)
          go_simp
          (show K _ _)
          refine hK _ _ ⟨_, rfl, by simp, Chg.of_ext (show Ext _ _ from zq0) _, ⟨(HJ9.out.1.of (show Ext _ _ from zq0)).up (by omega), HJ9.out.2.of (show Ext _ _ from zq0)⟩, rfl⟩
        | 3, _, ho =>
          have e2 : σ 2 = .pointer (some ⟨p, 0, none⟩) := hd 2 (by obtain rfl := Option.some.inj ho; kernel_rfl)
          obtain rfl := Option.some.inj ho
          clear hd ho
          simp only [actO, putO, List.setIfInBounds_toArray, List.set_cons_zero, List.set_cons_succ, Nat.reduceAdd, e2]
          refine flow_K (fun K hK => ?_)
          have HRd := hid HJ9.out.1
          go_simp
          refine (pick_c R p _ (3) w9 HRd.out (by omega) (by omega) (by omega)).mono ?_
          rintro e w8 ⟨vv, rfl, hv0, hv1, hR8, hC8⟩
          (show K _ _)
          refine hK _ _ ⟨_, rfl, by simp, hC8, ⟨hR8.up (by omega), HJ9.out.2.chg hC8 (by simp; omega)⟩, ⟨vv, rfl, hv0, by omega⟩⟩
        | 4, _, ho =>
          obtain ⟨x1, e1⟩ : ∃ x : Int, σ 1 = .int .i64 x := hd 1 (by obtain rfl := Option.some.inj ho; kernel_rfl)
          obtain ⟨x3, e3, y3, z3⟩ : InI 0 (2) (σ 3) := hd 3 (by obtain rfl := Option.some.inj ho; kernel_rfl)
          obtain rfl := Option.some.inj ho
          clear hd ho
          simp only [actO, putO, List.setIfInBounds_toArray, List.set_cons_zero, List.set_cons_succ, Nat.reduceAdd, e1, e3]
          refine flow_K (fun K hK => ?_)
          go_simp
          (show K _ _)
          refine hK _ _ ⟨_, rfl, by simp, Chg.of_ext (show Ext _ _ from zq0) _, ⟨(HJ9.out.1.of (show Ext _ _ from zq0)).up (by omega), HJ9.out.2.of (show Ext _ _ from zq0)⟩, ⟨_, rfl⟩⟩
        | 5, _, ho =>
          obtain ⟨x4, e4⟩ : ∃ x : Int, σ 4 = .int .i64 x := hd 4 (by obtain rfl := Option.some.inj ho; kernel_rfl)
          obtain rfl := Option.some.inj ho
          clear hd ho
          simp only [actO, putO, List.setIfInBounds_toArray, List.set_cons_zero, List.set_cons_succ, Nat.reduceAdd, e4]
          refine flow_K (fun K hK => ?_)
          go_simp
          (show K _ _)
          refine hK _ _ ⟨_, rfl, by simp, Chg.of_ext (show Ext _ _ from zq0) _, ⟨(HJ9.out.1.of (show Ext _ _ from zq0)).up (by omega), HJ9.out.2.of (show Ext _ _ from zq0)⟩, ⟨_, rfl⟩⟩
        | 6, _, ho =>
          obtain rfl := Option.some.inj ho
          clear hd ho
          simp only [actO, putO, List.setIfInBounds_toArray, List.set_cons_zero, List.set_cons_succ, Nat.reduceAdd]
          refine flow_K (fun K hK => ?_)
          go_simp
          (show K _ _)
          refine hK _ _ ⟨_, rfl, by simp, Chg.of_ext (show Ext _ _ from zq0) _, ⟨(HJ9.out.1.of (show Ext _ _ from zq0)).up (by omega), HJ9.out.2.of (show Ext _ _ from zq0)⟩, rfl⟩
        | 7, _, ho =>
          have e6 : σ 6 = .pointer (some ⟨G, 1, none⟩) := hd 6 (by obtain rfl := Option.some.inj ho; kernel_rfl)
          obtain ⟨x5, e5⟩ : ∃ x : Int, σ 5 = .int .i64 x := hd 5 (by obtain rfl := Option.some.inj ho; kernel_rfl)
          obtain ⟨_, hb0, x0, rfl⟩ := HJ9.out.2.at (.head _)
          have cR0 := (cell_blk hb0 0).trans rfl
          have zR0 := frozen_blk hb0 0
          have cR1 := (cell_blk hb0 1).trans rfl
          have zR1 := frozen_blk hb0 1
          have cR2 := (cell_blk hb0 2).trans rfl
          have zR2 := frozen_blk hb0 2
          have cR3 := (cell_blk hb0 3).trans rfl
          have zR3 := frozen_blk hb0 3
          have cR4 := (cell_blk hb0 4).trans rfl
          have zR4 := frozen_blk hb0 4
          have cR5 := (cell_blk hb0 5).trans rfl
          have zR5 := frozen_blk hb0 5
          have cR6 := (cell_blk hb0 6).trans rfl
          have zR6 := frozen_blk hb0 6
          have lR9 := lt_blk hb0
          have HB0 := hid hb0
          clear hb0
          obtain rfl := Option.some.inj ho
          clear hd ho
          simp only [actO, putO, List.setIfInBounds_toArray, List.set_cons_zero, List.set_cons_succ, Nat.reduceAdd, e6, e5]
          refine flow_K (fun K hK => ?_)
          go_simp
          (show K _ _)
          refine hK _ _ ⟨undef, rfl, fun _ => rfl, zq1, ⟨(HJ9.out.1.chg (B := [G]) zq1 (by simp; omega) (Nat.le_refl _)).up (by omega), HJ9.out.2.put (R := G) zq1 (o := oGst { x0 with count := x5 }) (gst_set1 HB0.out) (fun q hq hqR => ?_)⟩, ⟨_, gst_set1 HB0.out, _, rfl, trivial⟩⟩
          simp only [List.mem_cons, List.not_mem_nil, or_false] at hq
          rcases hq with rfl | rfl | rfl | rfl
          · exact ⟨_, rfl⟩
          · exact absurd hqR (by dsimp only; omega)
          · exact absurd hqR (by dsimp only; omega)
          · exact absurd hqR (by dsimp only; omega)
      · intro σ w9 hG hJ hd
        have e0 : σ 0 = .pointer (some ⟨G, 1, none⟩) := hd 0 (by decide)
        obtain ⟨x1, e1⟩ : ∃ x : Int, σ 1 = .int .i64 x := hd 1 (by decide)
        have e2 : σ 2 = .pointer (some ⟨p, 0, none⟩) := hd 2 (by decide)
        obtain ⟨x3, e3, y3, z3⟩ : InI 0 (2) (σ 3) := hd 3 (by decide)
        obtain ⟨x4, e4⟩ : ∃ x : Int, σ 4 = .int .i64 x := hd 4 (by decide)
        obtain ⟨x5, e5⟩ : ∃ x : Int, σ 5 = .int .i64 x := hd 5 (by decide)
        have e6 : σ 6 = .pointer (some ⟨G, 1, none⟩) := hd 6 (by decide)
        obtain ⟨_, hs7, x7, rfl, h7⟩ : BlkP G (fun o => ∃ x, o = oGst x ∧ True) _ := hd 7 (by decide)
        have HG := hid hG
        have HJ9 := hid (show Rdr R p (19000 + 1 * 8) w9 ∧ Held [(G, IsGst), (M, fun o => o = oMp m), (R, IsMp), (T, IsGst)] w9 from hJ)
        clear hd hG hJ
        simp only [actO, putO, List.setIfInBounds_toArray, List.set_cons_zero, List.set_cons_succ, Nat.reduceAdd, e0, e1, e2, e3, e4, e5, e6]
        clear e0 e1 e2 e3 e4 e5 e6
        have HRZ := hid HJ9.out.1
        have HHZ := hid HJ9.out.2
        have HCZ := hid (HCY.out.chgB (HG.out.chg rfl) (by simp; omega))
        have HLZ := hid (HLY.out.chg (HG.out.chg rfl) (fun b hb => by have := HB1.out b hb; simp; omega))
        clear HG HJ9 HJ HCY HLY
        try go_wp2_with (first
            | fail
            | (
              with_reducible refine wp_region_mix (by kernel_rfl) (by decide +kernel) ?_
              repeat (first
                | (refine mix_pure rfl ?_; (first | go_big_quiet_skip | (go_big_quiet_want; go_big_quiet_op; go_big_quiet_on)); refine wpQuiet_nil ?_)
                | (refine mix_skip (by rfl) ?_; (try simp only [Act.put, List.setIfInBounds_toArray, List.set_cons_zero, List.set_cons_succ]))
                | (refine mix_mk rfl (by rfl) (fun K hK => ?_); (first | (go_simp; first | skip)); (show K _ _); refine hK _ _ (show Ext _ _ from zq0) ?_; clear hK K; (try simp only [Act.put, List.setIfInBounds_toArray, List.set_cons_zero, List.set_cons_succ])))
              refine mix_nil ?_)
            | (
              with_reducible refine wp_region_ext (by kernel_rfl) (by kernel_rfl) ?_
              repeat (first | go_big_quiet_skip | (go_big_quiet_want; go_big_quiet_op; first | go_big_quiet_on | (apply Exists.intro; refine ⟨fun _ => ?_, ?_⟩; (fail); (try rw [h1]); (try rw [h2]); (try rw [h3]); (try rw [h4]); (try rw [p1]); (try rw [p2]); (try rw [p3]); (try rw [p4]); (try rw [r1]); (try rw [r2]); (try rw [r3]); (try rw [r4]); (try rw [r5]); (try rw [r6]); (try rw [q3]); (try rw [q4]); (try rw [hp]); (try rw [hq]); go_big_quiet_on)))
              refine wpQuiet_nil ?_
              rintro _ ⟨tq, rfl⟩))
        refine calls_gen fun X2 hX => ?_
        have EX : Ext w9 X2 := by rw [hX]; ((try simp only [ext_drew]); (try simp only [ext_ext]); repeat (first | exact Ext.refl _ | with_reducible apply Ext.add | with_reducible apply Ext.dr | apply Ext.alloc | apply Ext.ext | apply Ext.drew | refine Ext.trans ?_ (by assumption)))
        have HRZ := hid (HRZ.out.of EX)
        have HHZ := hid (HHZ.out.of EX)
        have HCZ := hid (HCZ.out.trans EX)
        have HLZ := hid (HLZ.out.of EX)
        clear hX EX
        refine (pick_c R p _ 9 X2 HRZ.out (by omega) (by omega) (by omega)).mono ?_
        rintro e V4 ⟨v, rfl, hv0, hv1, hRV, hCV⟩
        have HHZ := hid (HHZ.out.chg hCV (by simp; omega))
        have HLZ := hid (HLZ.out.chg hCV (fun b hb => by have := HB1.out b hb; simp; omega))
        have HCZ := hid (HCZ.out.chgB hCV (by simp; omega))
        have HRZ := hid hRV
        clear hRV hCV
        obtain ⟨_, hg, gq2, rfl⟩ := HHZ.out.at (.head _)
        have cg0 : V4.cell? ⟨G, 0, none⟩ = some (.int .i64 gq2.src) := (cell_blk hg 0).trans rfl
        have cg1 : V4.cell? ⟨G, 1, none⟩ = some (.int .i64 gq2.count) := (cell_blk hg 1).trans rfl
        have cg2 : V4.cell? ⟨G, 2, none⟩ = some (.int .i64 gq2.wk.id) := (cell_blk hg 2).trans rfl
        have cg3 : V4.cell? ⟨G, 3, none⟩ = some (.int .i64 gq2.wk.at_) := (cell_blk hg 3).trans rfl
        have cg4 : V4.cell? ⟨G, 4, none⟩ = some (.int .i64 gq2.wk.coins) := (cell_blk hg 4).trans rfl
        have cg5 : V4.cell? ⟨G, 5, none⟩ = some (.int .i64 gq2.wk.seq) := (cell_blk hg 5).trans rfl
        have cg6 : V4.cell? ⟨G, 6, none⟩ = some (.int .i64 gq2.wk.last) := (cell_blk hg 6).trans rfl
        have zcg0 := frozen_blk hg 0
        have zcg1 := frozen_blk hg 1
        have zcg2 := frozen_blk hg 2
        have zcg3 := frozen_blk hg 3
        have zcg4 := frozen_blk hg 4
        have zcg5 := frozen_blk hg 5
        have zcg6 := frozen_blk hg 6
        have lg := lt_blk hg
        have HBG := hid hg
        clear hg
        try go_wp2_with (first
            | fail
            | (
              with_reducible refine wp_region_mix (by kernel_rfl) (by decide +kernel) ?_
              repeat (first
                | (refine mix_pure rfl ?_; (first | go_big_quiet_skip | (go_big_quiet_want; go_big_quiet_op; go_big_quiet_on)); refine wpQuiet_nil ?_)
                | (refine mix_skip (by rfl) ?_; (try simp only [Act.put, List.setIfInBounds_toArray, List.set_cons_zero, List.set_cons_succ]))
                | (refine mix_mk rfl (by rfl) (fun K hK => ?_); (first | (go_simp; first | skip)); (show K _ _); refine hK _ _ (show Ext _ _ from zq0) ?_; clear hK K; (try simp only [Act.put, List.setIfInBounds_toArray, List.set_cons_zero, List.set_cons_succ])))
              refine mix_nil ?_)
            | (
              with_reducible refine wp_region_ext (by kernel_rfl) (by kernel_rfl) ?_
              repeat (first | go_big_quiet_skip | (go_big_quiet_want; go_big_quiet_op; first | go_big_quiet_on | (apply Exists.intro; refine ⟨fun _ => ?_, ?_⟩; (fail); (try rw [h1]); (try rw [h2]); (try rw [h3]); (try rw [h4]); (try rw [p1]); (try rw [p2]); (try rw [p3]); (try rw [p4]); (try rw [r1]); (try rw [r2]); (try rw [r3]); (try rw [r4]); (try rw [r5]); (try rw [r6]); (try rw [q3]); (try rw [q4]); (try rw [hp]); (try rw [hq]); go_big_quiet_on)))
              refine wpQuiet_nil ?_
              rintro _ ⟨tq, rfl⟩))
        refine wp_gen fun Z hZ => ?_
        have hg6 : Z.heap[G]? = some (oGst { gq2 with wk := { gq2.wk with coins := v } }) := by rw [hZ]; exact gst_set4 HBG.out
        have hch : Chg [G] V4 Z := by rw [hZ]; exact zq1
        have HHZ := hid (HHZ.out.put hch hg6 (fun q hq hqR => by
          simp only [List.mem_cons, List.not_mem_nil, or_false] at hq
          rcases hq with rfl | rfl | rfl | rfl
          · exact ⟨_, rfl⟩
          · exact absurd hqR (by dsimp only; omega)
          · exact absurd hqR (by dsimp only; omega)
          · exact absurd hqR (by dsimp only; omega)))
        have HRZ := hid ((HRZ.out.chg (B := [G]) hch (by simp; omega) (Nat.le_refl _)).up (show _ ≤ 20000 by omega))
        have HCZ := hid (HCZ.out.chgB hch (by simp; omega))
        have HLZ := hid (HLZ.out.chg hch (fun b hb => by have := HB1.out b hb; simp; omega))
        clear hZ hch hg6 HBG cg0 cg1 cg2 cg3 cg4 cg5 cg6 zcg0 zcg1 zcg2 zcg3 zcg4 zcg5 zcg6 lg
        refine wp_gen fun Y hY => ?_
        have EY : Ext Z Y := by rw [hY]; ((try simp only [ext_drew]); (try simp only [ext_ext]); repeat (first | exact Ext.refl _ | with_reducible apply Ext.add | with_reducible apply Ext.dr | apply Ext.alloc | apply Ext.ext | apply Ext.drew | refine Ext.trans ?_ (by assumption)))
        have HJ := hid (show Rdr R p 20000 Y ∧ Held [(G, IsGst), (M, fun o => o = oMp m), (R, IsMp), (T, IsGst)] Y from ⟨(HRZ.out.of EY).up (by omega), HHZ.out.of EY⟩)
        have HCY := hid (HCZ.out.trans EY)
        have HLY := hid (HLZ.out.of EY)
        obtain ⟨_, hb0, _⟩ := HJ.out.2.at (.head _)
        obtain ⟨_, hb1, _⟩ := HJ.out.2.at (.tail _ (.head _))
        obtain ⟨_, hb2, _⟩ := HJ.out.2.at (.tail _ (.tail _ (.head _)))
        obtain ⟨_, hb3, _⟩ := HJ.out.2.at (.tail _ (.tail _ (.tail _ (.head _))))
        have lG0 := lt_blk hb0
        have lM0 := lt_blk hb1
        have lR0 := lt_blk hb2
        have lT0 := lt_blk hb3
        have hpW := HJ.out.1.lt
        clear hY EY HRZ HCZ HHZ HLZ hb0 hb1 hb2 hb3
        refine wp_region_flowD [some 45, some 46, some 47, none, some 3, none] (fun a b => ChgT Y.heap.size [p, R, T] (fun _ => False) a b) (fun i a b => match i with | 3 => Chg [R] a b | 5 => Chg [T] a b | _ => Chg [p] a b) (fun k9 w9 => Rdr R p (20000 + 1 * k9) w9 ∧ Held [(G, IsGst), (M, fun o => o = oMp m), (R, IsMp), (T, IsGst)] w9) (fun i v9 w9 => match i with
          | 0 => v9 = .agg #[.int .i64 (m.c), .int .i64 (m.w)]
          | 1 => v9 = .slice (some ⟨bq, 0, none⟩) xl c9
          | 2 => InG (v9)
          | 3 => BlkP R (fun o => ∃ x, o = oMp x ∧ True) w9
          | 4 => v9 = .slice (some ⟨bq, 0, none⟩) xl c9
          | _ => BlkP T (fun o => ∃ x, o = oGst x ∧ True) w9) (by kernel_rfl) (by decide +kernel) (by simp) (fun a => ChgT.refl _ _ _ a) (fun a b c h k => ChgT.trans h k) ?_ (ChgT.of (Chg.drew (Chg.refl [] _)) (by simp)) ?_ ?_ ?_ ?_
        · intro i a b hi hG
          have hi9 : i < 6 := hi
          clear hi
          match i, hi9, hG with
          | 0, _, hG => exact ChgT.of hG (by simp; omega)
          | 1, _, hG => exact ChgT.of hG (by simp; omega)
          | 2, _, hG => exact ChgT.of hG (by simp; omega)
          | 3, _, hG => exact ChgT.of hG (by simp; omega)
          | 4, _, hG => exact ChgT.of hG (by simp; omega)
          | 5, _, hG => exact ChgT.of hG (by simp; omega)
          | n + 6, h9, _ => exact absurd h9 (by omega)
        · exact ⟨HJ.out.1.of zq0, HJ.out.2.drw⟩
        · intro i j hi hj hij v9 w9 w8 hg hS hG
          have hi9 : i < 6 := hi
          have hj9 : j < 6 := hj
          have hG0 := hG
          have hG2 : ChgT Y.heap.size [p, R, T] (fun _ => False) w9 w8 := by
            clear hG0 hij hi hj hS
            match i, hi9, hG with
            | 0, _, hG => exact ChgT.of hG (by simp; omega)
            | 1, _, hG => exact ChgT.of hG (by simp; omega)
            | 2, _, hG => exact ChgT.of hG (by simp; omega)
            | 3, _, hG => exact ChgT.of hG (by simp; omega)
            | 4, _, hG => exact ChgT.of hG (by simp; omega)
            | 5, _, hG => exact ChgT.of hG (by simp; omega)
            | n + 6, h9, _ => exact absurd h9 (by omega)
          clear hi hj hG
          match j, hj9 with
          | 0, _ => exact hS
          | 1, _ => exact hS
          | 2, _ => exact hS
          | 3, _ =>
            match i, hi9, hG0, hij with
            | 0, _, hG, _ => exact BlkP.chg hS hG (by simp; omega)
            | 1, _, hG, _ => exact BlkP.chg hS hG (by simp; omega)
            | 2, _, hG, _ => exact BlkP.chg hS hG (by simp; omega)
            | 3, _, _, h9 => exact absurd rfl h9
            | 4, _, hG, _ => exact BlkP.chg hS hG (by simp; omega)
            | 5, _, hG, _ => exact BlkP.chg hS hG (by simp; omega)
            | n + 6, h9, _, _ => exact absurd h9 (by omega)
          | 4, _ => exact hS
          | 5, _ =>
            match i, hi9, hG0, hij with
            | 0, _, hG, _ => exact BlkP.chg hS hG (by simp; omega)
            | 1, _, hG, _ => exact BlkP.chg hS hG (by simp; omega)
            | 2, _, hG, _ => exact BlkP.chg hS hG (by simp; omega)
            | 3, _, hG, _ => exact BlkP.chg hS hG (by simp; omega)
            | 4, _, hG, _ => exact BlkP.chg hS hG (by simp; omega)
            | 5, _, _, h9 => exact absurd rfl h9
            | n + 6, h9, _, _ => exact absurd h9 (by omega)
          | n + 6, h9 => exact absurd h9 (by omega)
        · intro i oo ho σ k9 w9 hG hk9 hJ hd
          have HG := hid hG
          have HJ9 := hid hJ
          have hW9 := hG.size
          have hkN : k9 < 6 := hk9
          have hi9 : i < 6 := (List.getElem?_eq_some_iff.1 ho).1
          clear hG hJ hk9
          match i, hi9, ho with
          | 0, _, ho =>
            obtain ⟨_, hbm, rfl⟩ := HJ9.out.2.at (.tail _ (.head _))
            have cM0 := (cell_blk hbm 0).trans (show _ = some (Value.int .i64 m.c) from rfl)
            have cM1 := (cell_blk hbm 1).trans (show _ = some (Value.int .i64 m.w) from rfl)
            have zM0 := frozen_blk hbm 0
            have zM1 := frozen_blk hbm 1
            have lM9 := lt_blk hbm
            clear hbm
            obtain rfl := Option.some.inj ho
            clear hd ho
            simp only [actO, putO, List.setIfInBounds_toArray, List.set_cons_zero, List.set_cons_succ, Nat.reduceAdd]
            refine flow_K (fun K hK => ?_)
            go_simp
            (show K _ _)
            refine hK _ _ ⟨_, rfl, by simp, Chg.of_ext (show Ext _ _ from zq0) _, ⟨(HJ9.out.1.of (show Ext _ _ from zq0)).up (by omega), HJ9.out.2.of (show Ext _ _ from zq0)⟩, rfl⟩
          | 1, _, ho =>
            obtain rfl := Option.some.inj ho
            clear hd ho
            simp only [actO, putO, List.setIfInBounds_toArray, List.set_cons_zero, List.set_cons_succ, Nat.reduceAdd]
            refine flow_K (fun K hK => ?_)
            go_simp
            (show K _ _)
            refine hK _ _ ⟨_, rfl, by simp, Chg.of_ext (show Ext _ _ from zq0) _, ⟨(HJ9.out.1.of (show Ext _ _ from zq0)).up (by omega), HJ9.out.2.of (show Ext _ _ from zq0)⟩, rfl⟩
          | 2, _, ho =>
            obtain ⟨_, hb, x0, rfl⟩ := HJ9.out.2.at (.head _)
            have cU0 := (cell_blk hb 0).trans (show _ = some (Value.int .i64 x0.src) from rfl)
            have zU0 := frozen_blk hb 0
            have cU1 := (cell_blk hb 1).trans (show _ = some (Value.int .i64 x0.count) from rfl)
            have zU1 := frozen_blk hb 1
            have cU2 := (cell_blk hb 2).trans (show _ = some (Value.int .i64 x0.wk.id) from rfl)
            have zU2 := frozen_blk hb 2
            have cU3 := (cell_blk hb 3).trans (show _ = some (Value.int .i64 x0.wk.at_) from rfl)
            have zU3 := frozen_blk hb 3
            have cU4 := (cell_blk hb 4).trans (show _ = some (Value.int .i64 x0.wk.coins) from rfl)
            have zU4 := frozen_blk hb 4
            have cU5 := (cell_blk hb 5).trans (show _ = some (Value.int .i64 x0.wk.seq) from rfl)
            have zU5 := frozen_blk hb 5
            have cU6 := (cell_blk hb 6).trans (show _ = some (Value.int .i64 x0.wk.last) from rfl)
            have zU6 := frozen_blk hb 6
            have lU := lt_blk hb
            clear hb
            obtain rfl := Option.some.inj ho
            clear hd ho
            simp only [actO, putO, List.setIfInBounds_toArray, List.set_cons_zero, List.set_cons_succ, Nat.reduceAdd]
            refine flow_K (fun K hK => ?_)
            go_simp
            (show K _ _)
            refine hK _ _ ⟨_, rfl, by simp, Chg.of_ext (show Ext _ _ from zq0) _, ⟨(HJ9.out.1.of (show Ext _ _ from zq0)).up (by omega), HJ9.out.2.of (show Ext _ _ from zq0)⟩, ⟨x0, rfl, trivial⟩⟩
          | 3, _, ho =>
            have e0 : σ 0 = .agg #[.int .i64 (m.c), .int .i64 (m.w)] := hd 0 (by obtain rfl := Option.some.inj ho; kernel_rfl)
            obtain ⟨_, hb0, x0, rfl⟩ := HJ9.out.2.at (.tail _ (.tail _ (.head _)))
            have cR0 := (cell_blk hb0 0).trans rfl
            have zR0 := frozen_blk hb0 0
            have cR1 := (cell_blk hb0 1).trans rfl
            have zR1 := frozen_blk hb0 1
            have lR9 := lt_blk hb0
            have HB0 := hid hb0
            clear hb0
            obtain rfl := Option.some.inj ho
            clear hd ho
            simp only [actO, putO, List.setIfInBounds_toArray, List.set_cons_zero, List.set_cons_succ, Nat.reduceAdd, e0]
            refine flow_K (fun K hK => ?_)
            go_simp
            (show K _ _)
            refine hK _ _ ⟨undef, rfl, fun _ => rfl, zq1, ⟨(HJ9.out.1.chg (B := [R]) zq1 (by simp; omega) (Nat.le_refl _)).up (by omega), HJ9.out.2.put (R := R) zq1 (o := oMp m) (mp_store (x := m) HB0.out) (fun q hq hqR => ?_)⟩, ⟨_, mp_store (x := m) HB0.out, _, rfl, trivial⟩⟩
            simp only [List.mem_cons, List.not_mem_nil, or_false] at hq
            rcases hq with rfl | rfl | rfl | rfl
            · exact absurd hqR (by dsimp only; omega)
            · exact absurd hqR (by dsimp only; omega)
            · exact ⟨_, rfl⟩
            · exact absurd hqR (by dsimp only; omega)
          | 4, _, ho =>
            have e1 : σ 1 = .slice (some ⟨bq, 0, none⟩) xl c9 := hd 1 (by obtain rfl := Option.some.inj ho; kernel_rfl)
            obtain rfl := Option.some.inj ho
            clear hd ho
            simp only [actO, putO, List.setIfInBounds_toArray, List.set_cons_zero, List.set_cons_succ, Nat.reduceAdd, e1]
            refine flow_K (fun K hK => ?_)
            go_simp
            (show K _ _)
            refine hK _ _ ⟨_, rfl, by simp, Chg.of_ext (show Ext _ _ from zq0) _, ⟨(HJ9.out.1.of (show Ext _ _ from zq0)).up (by omega), HJ9.out.2.of (show Ext _ _ from zq0)⟩, rfl⟩
          | 5, _, ho =>
            obtain ⟨x2, e2, h2⟩ : InG (σ 2) := hd 2 (by obtain rfl := Option.some.inj ho; kernel_rfl)
            obtain ⟨_, hb0, x0, rfl⟩ := HJ9.out.2.at (.tail _ (.tail _ (.tail _ (.head _))))
            have cR0 := (cell_blk hb0 0).trans rfl
            have zR0 := frozen_blk hb0 0
            have cR1 := (cell_blk hb0 1).trans rfl
            have zR1 := frozen_blk hb0 1
            have cR2 := (cell_blk hb0 2).trans rfl
            have zR2 := frozen_blk hb0 2
            have cR3 := (cell_blk hb0 3).trans rfl
            have zR3 := frozen_blk hb0 3
            have cR4 := (cell_blk hb0 4).trans rfl
            have zR4 := frozen_blk hb0 4
            have cR5 := (cell_blk hb0 5).trans rfl
            have zR5 := frozen_blk hb0 5
            have cR6 := (cell_blk hb0 6).trans rfl
            have zR6 := frozen_blk hb0 6
            have lR9 := lt_blk hb0
            have HB0 := hid hb0
            clear hb0
            obtain rfl := Option.some.inj ho
            clear hd ho
            simp only [actO, putO, List.setIfInBounds_toArray, List.set_cons_zero, List.set_cons_succ, Nat.reduceAdd, e2]
            refine flow_K (fun K hK => ?_)
            go_simp
            (show K _ _)
            refine hK _ _ ⟨undef, rfl, fun _ => rfl, zq1, ⟨(HJ9.out.1.chg (B := [T]) zq1 (by simp; omega) (Nat.le_refl _)).up (by omega), HJ9.out.2.put (R := T) zq1 (o := oGst x2) (gst_store (x := x2) HB0.out) (fun q hq hqR => ?_)⟩, ⟨_, gst_store (x := x2) HB0.out, _, rfl, trivial⟩⟩
            simp only [List.mem_cons, List.not_mem_nil, or_false] at hq
            rcases hq with rfl | rfl | rfl | rfl
            · exact absurd hqR (by dsimp only; omega)
            · exact absurd hqR (by dsimp only; omega)
            · exact absurd hqR (by dsimp only; omega)
            · exact ⟨_, rfl⟩
        · intro σ w9 hG hJ hd
          have e0 : σ 0 = .agg #[.int .i64 (m.c), .int .i64 (m.w)] := hd 0 (by decide)
          have e1 : σ 1 = .slice (some ⟨bq, 0, none⟩) xl c9 := hd 1 (by decide)
          obtain ⟨x2, e2, h2⟩ : InG (σ 2) := hd 2 (by decide)
          obtain ⟨_, hs3, x3, rfl, h3⟩ : BlkP R (fun o => ∃ x, o = oMp x ∧ True) _ := hd 3 (by decide)
          have e4 : σ 4 = .slice (some ⟨bq, 0, none⟩) xl c9 := hd 4 (by decide)
          obtain ⟨_, hs5, x5, rfl, h5⟩ : BlkP T (fun o => ∃ x, o = oGst x ∧ True) _ := hd 5 (by decide)
          have HG := hid hG
          have HJ9 := hid (show Rdr R p (20000 + 1 * 6) w9 ∧ Held [(G, IsGst), (M, fun o => o = oMp m), (R, IsMp), (T, IsGst)] w9 from hJ)
          clear hd hG hJ
          simp only [actO, putO, List.setIfInBounds_toArray, List.set_cons_zero, List.set_cons_succ, Nat.reduceAdd, e0, e1, e2, e4]
          clear e0 e1 e2 e4
          obtain ⟨_, hbR, xm, rfl, _⟩ := (show BlkP R (fun o => ∃ x, o = oMp x ∧ True) w9 from ⟨_, hs3, x3, rfl, trivial⟩)
          obtain ⟨_, hbT, xg, rfl, _⟩ := (show BlkP T (fun o => ∃ x, o = oGst x ∧ True) w9 from ⟨_, hs5, x5, rfl, trivial⟩)
          have cR0 : w9.cell? ⟨R, 0, none⟩ = some (.int .i64 xm.c) := (cell_blk hbR 0).trans rfl
          have cR1 : w9.cell? ⟨R, 1, none⟩ = some (.int .i64 xm.w) := (cell_blk hbR 1).trans rfl
          have ct0 : w9.cell? ⟨T, 0, none⟩ = some (.int .i64 xg.src) := (cell_blk hbT 0).trans rfl
          have ct1 : w9.cell? ⟨T, 1, none⟩ = some (.int .i64 xg.count) := (cell_blk hbT 1).trans rfl
          have ct2 : w9.cell? ⟨T, 2, none⟩ = some (.int .i64 xg.wk.id) := (cell_blk hbT 2).trans rfl
          have ct3 : w9.cell? ⟨T, 3, none⟩ = some (.int .i64 xg.wk.at_) := (cell_blk hbT 3).trans rfl
          have ct4 : w9.cell? ⟨T, 4, none⟩ = some (.int .i64 xg.wk.coins) := (cell_blk hbT 4).trans rfl
          have ct5 : w9.cell? ⟨T, 5, none⟩ = some (.int .i64 xg.wk.seq) := (cell_blk hbT 5).trans rfl
          have ct6 : w9.cell? ⟨T, 6, none⟩ = some (.int .i64 xg.wk.last) := (cell_blk hbT 6).trans rfl
          have zct0 := frozen_blk hbT 0
          have zct1 := frozen_blk hbT 1
          have zct2 := frozen_blk hbT 2
          have zct3 := frozen_blk hbT 3
          have zct4 := frozen_blk hbT 4
          have zct5 := frozen_blk hbT 5
          have zct6 := frozen_blk hbT 6
          have lR := lt_blk hbR
          have lT := lt_blk hbT
          have HCH := hid (HG.out.chg rfl)
          clear hbR hbT hs3 hs5 HG HJ9 HJ
          try go_wp2_with (first
              | fail
              | (
                with_reducible refine wp_region_mix (by kernel_rfl) (by decide +kernel) ?_
                repeat (first
                  | (refine mix_pure rfl ?_; (first | go_big_quiet_skip | (go_big_quiet_want; go_big_quiet_op; go_big_quiet_on)); refine wpQuiet_nil ?_)
                  | (refine mix_skip (by rfl) ?_; (try simp only [Act.put, List.setIfInBounds_toArray, List.set_cons_zero, List.set_cons_succ]))
                  | (refine mix_mk rfl (by rfl) (fun K hK => ?_); (first | (go_simp; first | skip)); (show K _ _); refine hK _ _ (show Ext _ _ from zq0) ?_; clear hK K; (try simp only [Act.put, List.setIfInBounds_toArray, List.set_cons_zero, List.set_cons_succ])))
                refine mix_nil ?_)
              | (
                with_reducible refine wp_region_ext (by kernel_rfl) (by kernel_rfl) ?_
                repeat (first | go_big_quiet_skip | (go_big_quiet_want; go_big_quiet_op; first | go_big_quiet_on | (apply Exists.intro; refine ⟨fun _ => ?_, ?_⟩; (fail); (try rw [h1]); (try rw [h2]); (try rw [h3]); (try rw [h4]); (try rw [p1]); (try rw [p2]); (try rw [p3]); (try rw [p4]); (try rw [r1]); (try rw [r2]); (try rw [r3]); (try rw [r4]); (try rw [r5]); (try rw [r6]); (try rw [q3]); (try rw [q4]); (try rw [hp]); (try rw [hq]); go_big_quiet_on)))
                refine wpQuiet_nil ?_
                rintro _ ⟨tq, rfl⟩))
          refine bodyPost_ret (v := .tuple #[.agg #[.int .i64 xm.c, .int .i64 xm.w], .slice (some ⟨bq, 0, none⟩) xl c9, .agg #[.int .i64 xg.src, .int .i64 xg.count, .int .i64 xg.wk.id, .int .i64 xg.wk.at_, .int .i64 xg.wk.coins, .int .i64 xg.wk.seq, .int .i64 xg.wk.last]]) (by simp [results, Try.results47, go_sem, cR0, cR1, ct0, ct1, ct2, ct3, ct4, ct5, ct6, lR, lT]) rfl ?_
          exact ⟨xm, _, xs, xg, rfl, ⟨B, HLY.out.chg HCH.out (fun b hb => by have := HB1.out b hb; simp; omega), fun b hb => by have := HB1.out b hb; omega⟩, HXL.out, HCY.out.chgB HCH.out (by simp; omega)⟩
    · have g9 : (v == 0) = false := beq_f hv
      clear hv
      try go_wp2_with (first
          | fail
          | (
            with_reducible refine wp_region_mix (by kernel_rfl) (by decide +kernel) ?_
            repeat (first
              | (refine mix_pure rfl ?_; (first | go_big_quiet_skip | (go_big_quiet_want; go_big_quiet_op; go_big_quiet_on)); refine wpQuiet_nil ?_)
              | (refine mix_skip (by rfl) ?_; (try simp only [Act.put, List.setIfInBounds_toArray, List.set_cons_zero, List.set_cons_succ]))
              | (refine mix_mk rfl (by rfl) (fun K hK => ?_); (first | (go_simp; first | skip)); (show K _ _); refine hK _ _ (show Ext _ _ from zq0) ?_; clear hK K; (try simp only [Act.put, List.setIfInBounds_toArray, List.set_cons_zero, List.set_cons_succ])))
            refine mix_nil ?_)
          | (
            with_reducible refine wp_region_ext (by kernel_rfl) (by kernel_rfl) ?_
            repeat (first | go_big_quiet_skip | (go_big_quiet_want; go_big_quiet_op; first | go_big_quiet_on | (apply Exists.intro; refine ⟨fun _ => ?_, ?_⟩; (fail); (try rw [h1]); (try rw [h2]); (try rw [h3]); (try rw [h4]); (try rw [p1]); (try rw [p2]); (try rw [p3]); (try rw [p4]); (try rw [r1]); (try rw [r2]); (try rw [r3]); (try rw [r4]); (try rw [r5]); (try rw [r6]); (try rw [q3]); (try rw [q4]); (try rw [hp]); (try rw [hq]); go_big_quiet_on)))
            refine wpQuiet_nil ?_
            rintro _ ⟨tq, rfl⟩))
      obtain ⟨Z, hZ⟩ : ∃ Z, V2 = Z := ⟨_, rfl⟩
      rw [hZ] at HRZ HHZ HCZ HLZ ⊢
      clear hZ
      refine wp_gen fun Y hY => ?_
      have EY : Ext Z Y := by rw [hY]; ((try simp only [ext_drew]); (try simp only [ext_ext]); repeat (first | exact Ext.refl _ | with_reducible apply Ext.add | with_reducible apply Ext.dr | apply Ext.alloc | apply Ext.ext | apply Ext.drew | refine Ext.trans ?_ (by assumption)))
      have HJ := hid (show Rdr R p 20000 Y ∧ Held [(G, IsGst), (M, fun o => o = oMp m), (R, IsMp), (T, IsGst)] Y from ⟨(HRZ.out.of EY).up (by omega), HHZ.out.of EY⟩)
      have HCY := hid (HCZ.out.trans EY)
      have HLY := hid (HLZ.out.of EY)
      obtain ⟨_, hb0, _⟩ := HJ.out.2.at (.head _)
      obtain ⟨_, hb1, _⟩ := HJ.out.2.at (.tail _ (.head _))
      obtain ⟨_, hb2, _⟩ := HJ.out.2.at (.tail _ (.tail _ (.head _)))
      obtain ⟨_, hb3, _⟩ := HJ.out.2.at (.tail _ (.tail _ (.tail _ (.head _))))
      have lG0 := lt_blk hb0
      have lM0 := lt_blk hb1
      have lR0 := lt_blk hb2
      have lT0 := lt_blk hb3
      have hpW := HJ.out.1.lt
      clear hY EY HRZ HCZ HHZ HLZ hb0 hb1 hb2 hb3
      refine wp_region_flowD [some 45, some 46, some 47, none, some 3, none] (fun a b => ChgT Y.heap.size [p, R, T] (fun _ => False) a b) (fun i a b => match i with | 3 => Chg [R] a b | 5 => Chg [T] a b | _ => Chg [p] a b) (fun k9 w9 => Rdr R p (20000 + 1 * k9) w9 ∧ Held [(G, IsGst), (M, fun o => o = oMp m), (R, IsMp), (T, IsGst)] w9) (fun i v9 w9 => match i with
        | 0 => v9 = .agg #[.int .i64 (m.c), .int .i64 (m.w)]
        | 1 => v9 = .slice a9 xl c9
        | 2 => InG (v9)
        | 3 => BlkP R (fun o => ∃ x, o = oMp x ∧ True) w9
        | 4 => v9 = .slice a9 xl c9
        | _ => BlkP T (fun o => ∃ x, o = oGst x ∧ True) w9) (by kernel_rfl) (by decide +kernel) (by simp) (fun a => ChgT.refl _ _ _ a) (fun a b c h k => ChgT.trans h k) ?_ (ChgT.of (Chg.drew (Chg.refl [] _)) (by simp)) ?_ ?_ ?_ ?_
      · intro i a b hi hG
        have hi9 : i < 6 := hi
        clear hi
        match i, hi9, hG with
        | 0, _, hG => exact ChgT.of hG (by simp; omega)
        | 1, _, hG => exact ChgT.of hG (by simp; omega)
        | 2, _, hG => exact ChgT.of hG (by simp; omega)
        | 3, _, hG => exact ChgT.of hG (by simp; omega)
        | 4, _, hG => exact ChgT.of hG (by simp; omega)
        | 5, _, hG => exact ChgT.of hG (by simp; omega)
        | n + 6, h9, _ => exact absurd h9 (by omega)
      · exact ⟨HJ.out.1.of zq0, HJ.out.2.drw⟩
      · intro i j hi hj hij v9 w9 w8 hg hS hG
        have hi9 : i < 6 := hi
        have hj9 : j < 6 := hj
        have hG0 := hG
        have hG2 : ChgT Y.heap.size [p, R, T] (fun _ => False) w9 w8 := by
          clear hG0 hij hi hj hS
          match i, hi9, hG with
          | 0, _, hG => exact ChgT.of hG (by simp; omega)
          | 1, _, hG => exact ChgT.of hG (by simp; omega)
          | 2, _, hG => exact ChgT.of hG (by simp; omega)
          | 3, _, hG => exact ChgT.of hG (by simp; omega)
          | 4, _, hG => exact ChgT.of hG (by simp; omega)
          | 5, _, hG => exact ChgT.of hG (by simp; omega)
          | n + 6, h9, _ => exact absurd h9 (by omega)
        clear hi hj hG
        match j, hj9 with
        | 0, _ => exact hS
        | 1, _ => exact hS
        | 2, _ => exact hS
        | 3, _ =>
          match i, hi9, hG0, hij with
          | 0, _, hG, _ => exact BlkP.chg hS hG (by simp; omega)
          | 1, _, hG, _ => exact BlkP.chg hS hG (by simp; omega)
          | 2, _, hG, _ => exact BlkP.chg hS hG (by simp; omega)
          | 3, _, _, h9 => exact absurd rfl h9
          | 4, _, hG, _ => exact BlkP.chg hS hG (by simp; omega)
          | 5, _, hG, _ => exact BlkP.chg hS hG (by simp; omega)
          | n + 6, h9, _, _ => exact absurd h9 (by omega)
        | 4, _ => exact hS
        | 5, _ =>
          match i, hi9, hG0, hij with
          | 0, _, hG, _ => exact BlkP.chg hS hG (by simp; omega)
          | 1, _, hG, _ => exact BlkP.chg hS hG (by simp; omega)
          | 2, _, hG, _ => exact BlkP.chg hS hG (by simp; omega)
          | 3, _, hG, _ => exact BlkP.chg hS hG (by simp; omega)
          | 4, _, hG, _ => exact BlkP.chg hS hG (by simp; omega)
          | 5, _, _, h9 => exact absurd rfl h9
          | n + 6, h9, _, _ => exact absurd h9 (by omega)
        | n + 6, h9 => exact absurd h9 (by omega)
      · intro i oo ho σ k9 w9 hG hk9 hJ hd
        have HG := hid hG
        have HJ9 := hid hJ
        have hW9 := hG.size
        have hkN : k9 < 6 := hk9
        have hi9 : i < 6 := (List.getElem?_eq_some_iff.1 ho).1
        clear hG hJ hk9
        match i, hi9, ho with
        | 0, _, ho =>
          obtain ⟨_, hbm, rfl⟩ := HJ9.out.2.at (.tail _ (.head _))
          have cM0 := (cell_blk hbm 0).trans (show _ = some (Value.int .i64 m.c) from rfl)
          have cM1 := (cell_blk hbm 1).trans (show _ = some (Value.int .i64 m.w) from rfl)
          have zM0 := frozen_blk hbm 0
          have zM1 := frozen_blk hbm 1
          have lM9 := lt_blk hbm
          clear hbm
          obtain rfl := Option.some.inj ho
          clear hd ho
          simp only [actO, putO, List.setIfInBounds_toArray, List.set_cons_zero, List.set_cons_succ, Nat.reduceAdd]
          refine flow_K (fun K hK => ?_)
          go_simp
          (show K _ _)
          refine hK _ _ ⟨_, rfl, by simp, Chg.of_ext (show Ext _ _ from zq0) _, ⟨(HJ9.out.1.of (show Ext _ _ from zq0)).up (by omega), HJ9.out.2.of (show Ext _ _ from zq0)⟩, rfl⟩
        | 1, _, ho =>
          obtain rfl := Option.some.inj ho
          clear hd ho
          simp only [actO, putO, List.setIfInBounds_toArray, List.set_cons_zero, List.set_cons_succ, Nat.reduceAdd]
          refine flow_K (fun K hK => ?_)
          go_simp
          (show K _ _)
          refine hK _ _ ⟨_, rfl, by simp, Chg.of_ext (show Ext _ _ from zq0) _, ⟨(HJ9.out.1.of (show Ext _ _ from zq0)).up (by omega), HJ9.out.2.of (show Ext _ _ from zq0)⟩, rfl⟩
        | 2, _, ho =>
          obtain ⟨_, hb, x0, rfl⟩ := HJ9.out.2.at (.head _)
          have cU0 := (cell_blk hb 0).trans (show _ = some (Value.int .i64 x0.src) from rfl)
          have zU0 := frozen_blk hb 0
          have cU1 := (cell_blk hb 1).trans (show _ = some (Value.int .i64 x0.count) from rfl)
          have zU1 := frozen_blk hb 1
          have cU2 := (cell_blk hb 2).trans (show _ = some (Value.int .i64 x0.wk.id) from rfl)
          have zU2 := frozen_blk hb 2
          have cU3 := (cell_blk hb 3).trans (show _ = some (Value.int .i64 x0.wk.at_) from rfl)
          have zU3 := frozen_blk hb 3
          have cU4 := (cell_blk hb 4).trans (show _ = some (Value.int .i64 x0.wk.coins) from rfl)
          have zU4 := frozen_blk hb 4
          have cU5 := (cell_blk hb 5).trans (show _ = some (Value.int .i64 x0.wk.seq) from rfl)
          have zU5 := frozen_blk hb 5
          have cU6 := (cell_blk hb 6).trans (show _ = some (Value.int .i64 x0.wk.last) from rfl)
          have zU6 := frozen_blk hb 6
          have lU := lt_blk hb
          clear hb
          obtain rfl := Option.some.inj ho
          clear hd ho
          simp only [actO, putO, List.setIfInBounds_toArray, List.set_cons_zero, List.set_cons_succ, Nat.reduceAdd]
          refine flow_K (fun K hK => ?_)
          go_simp
          (show K _ _)
          refine hK _ _ ⟨_, rfl, by simp, Chg.of_ext (show Ext _ _ from zq0) _, ⟨(HJ9.out.1.of (show Ext _ _ from zq0)).up (by omega), HJ9.out.2.of (show Ext _ _ from zq0)⟩, ⟨x0, rfl, trivial⟩⟩
        | 3, _, ho =>
          have e0 : σ 0 = .agg #[.int .i64 (m.c), .int .i64 (m.w)] := hd 0 (by obtain rfl := Option.some.inj ho; kernel_rfl)
          obtain ⟨_, hb0, x0, rfl⟩ := HJ9.out.2.at (.tail _ (.tail _ (.head _)))
          have cR0 := (cell_blk hb0 0).trans rfl
          have zR0 := frozen_blk hb0 0
          have cR1 := (cell_blk hb0 1).trans rfl
          have zR1 := frozen_blk hb0 1
          have lR9 := lt_blk hb0
          have HB0 := hid hb0
          clear hb0
          obtain rfl := Option.some.inj ho
          clear hd ho
          simp only [actO, putO, List.setIfInBounds_toArray, List.set_cons_zero, List.set_cons_succ, Nat.reduceAdd, e0]
          refine flow_K (fun K hK => ?_)
          go_simp
          (show K _ _)
          refine hK _ _ ⟨undef, rfl, fun _ => rfl, zq1, ⟨(HJ9.out.1.chg (B := [R]) zq1 (by simp; omega) (Nat.le_refl _)).up (by omega), HJ9.out.2.put (R := R) zq1 (o := oMp m) (mp_store (x := m) HB0.out) (fun q hq hqR => ?_)⟩, ⟨_, mp_store (x := m) HB0.out, _, rfl, trivial⟩⟩
          simp only [List.mem_cons, List.not_mem_nil, or_false] at hq
          rcases hq with rfl | rfl | rfl | rfl
          · exact absurd hqR (by dsimp only; omega)
          · exact absurd hqR (by dsimp only; omega)
          · exact ⟨_, rfl⟩
          · exact absurd hqR (by dsimp only; omega)
        | 4, _, ho =>
          have e1 : σ 1 = .slice a9 xl c9 := hd 1 (by obtain rfl := Option.some.inj ho; kernel_rfl)
          obtain rfl := Option.some.inj ho
          clear hd ho
          simp only [actO, putO, List.setIfInBounds_toArray, List.set_cons_zero, List.set_cons_succ, Nat.reduceAdd, e1]
          refine flow_K (fun K hK => ?_)
          go_simp
          (show K _ _)
          refine hK _ _ ⟨_, rfl, by simp, Chg.of_ext (show Ext _ _ from zq0) _, ⟨(HJ9.out.1.of (show Ext _ _ from zq0)).up (by omega), HJ9.out.2.of (show Ext _ _ from zq0)⟩, rfl⟩
        | 5, _, ho =>
          obtain ⟨x2, e2, h2⟩ : InG (σ 2) := hd 2 (by obtain rfl := Option.some.inj ho; kernel_rfl)
          obtain ⟨_, hb0, x0, rfl⟩ := HJ9.out.2.at (.tail _ (.tail _ (.tail _ (.head _))))
          have cR0 := (cell_blk hb0 0).trans rfl
          have zR0 := frozen_blk hb0 0
          have cR1 := (cell_blk hb0 1).trans rfl
          have zR1 := frozen_blk hb0 1
          have cR2 := (cell_blk hb0 2).trans rfl
          have zR2 := frozen_blk hb0 2
          have cR3 := (cell_blk hb0 3).trans rfl
          have zR3 := frozen_blk hb0 3
          have cR4 := (cell_blk hb0 4).trans rfl
          have zR4 := frozen_blk hb0 4
          have cR5 := (cell_blk hb0 5).trans rfl
          have zR5 := frozen_blk hb0 5
          have cR6 := (cell_blk hb0 6).trans rfl
          have zR6 := frozen_blk hb0 6
          have lR9 := lt_blk hb0
          have HB0 := hid hb0
          clear hb0
          obtain rfl := Option.some.inj ho
          clear hd ho
          simp only [actO, putO, List.setIfInBounds_toArray, List.set_cons_zero, List.set_cons_succ, Nat.reduceAdd, e2]
          refine flow_K (fun K hK => ?_)
          go_simp
          (show K _ _)
          refine hK _ _ ⟨undef, rfl, fun _ => rfl, zq1, ⟨(HJ9.out.1.chg (B := [T]) zq1 (by simp; omega) (Nat.le_refl _)).up (by omega), HJ9.out.2.put (R := T) zq1 (o := oGst x2) (gst_store (x := x2) HB0.out) (fun q hq hqR => ?_)⟩, ⟨_, gst_store (x := x2) HB0.out, _, rfl, trivial⟩⟩
          simp only [List.mem_cons, List.not_mem_nil, or_false] at hq
          rcases hq with rfl | rfl | rfl | rfl
          · exact absurd hqR (by dsimp only; omega)
          · exact absurd hqR (by dsimp only; omega)
          · exact absurd hqR (by dsimp only; omega)
          · exact ⟨_, rfl⟩
      · intro σ w9 hG hJ hd
        have e0 : σ 0 = .agg #[.int .i64 (m.c), .int .i64 (m.w)] := hd 0 (by decide)
        have e1 : σ 1 = .slice a9 xl c9 := hd 1 (by decide)
        obtain ⟨x2, e2, h2⟩ : InG (σ 2) := hd 2 (by decide)
        obtain ⟨_, hs3, x3, rfl, h3⟩ : BlkP R (fun o => ∃ x, o = oMp x ∧ True) _ := hd 3 (by decide)
        have e4 : σ 4 = .slice a9 xl c9 := hd 4 (by decide)
        obtain ⟨_, hs5, x5, rfl, h5⟩ : BlkP T (fun o => ∃ x, o = oGst x ∧ True) _ := hd 5 (by decide)
        have HG := hid hG
        have HJ9 := hid (show Rdr R p (20000 + 1 * 6) w9 ∧ Held [(G, IsGst), (M, fun o => o = oMp m), (R, IsMp), (T, IsGst)] w9 from hJ)
        clear hd hG hJ
        simp only [actO, putO, List.setIfInBounds_toArray, List.set_cons_zero, List.set_cons_succ, Nat.reduceAdd, e0, e1, e2, e4]
        clear e0 e1 e2 e4
        obtain ⟨_, hbR, xm, rfl, _⟩ := (show BlkP R (fun o => ∃ x, o = oMp x ∧ True) w9 from ⟨_, hs3, x3, rfl, trivial⟩)
        obtain ⟨_, hbT, xg, rfl, _⟩ := (show BlkP T (fun o => ∃ x, o = oGst x ∧ True) w9 from ⟨_, hs5, x5, rfl, trivial⟩)
        have cR0 : w9.cell? ⟨R, 0, none⟩ = some (.int .i64 xm.c) := (cell_blk hbR 0).trans rfl
        have cR1 : w9.cell? ⟨R, 1, none⟩ = some (.int .i64 xm.w) := (cell_blk hbR 1).trans rfl
        have ct0 : w9.cell? ⟨T, 0, none⟩ = some (.int .i64 xg.src) := (cell_blk hbT 0).trans rfl
        have ct1 : w9.cell? ⟨T, 1, none⟩ = some (.int .i64 xg.count) := (cell_blk hbT 1).trans rfl
        have ct2 : w9.cell? ⟨T, 2, none⟩ = some (.int .i64 xg.wk.id) := (cell_blk hbT 2).trans rfl
        have ct3 : w9.cell? ⟨T, 3, none⟩ = some (.int .i64 xg.wk.at_) := (cell_blk hbT 3).trans rfl
        have ct4 : w9.cell? ⟨T, 4, none⟩ = some (.int .i64 xg.wk.coins) := (cell_blk hbT 4).trans rfl
        have ct5 : w9.cell? ⟨T, 5, none⟩ = some (.int .i64 xg.wk.seq) := (cell_blk hbT 5).trans rfl
        have ct6 : w9.cell? ⟨T, 6, none⟩ = some (.int .i64 xg.wk.last) := (cell_blk hbT 6).trans rfl
        have zct0 := frozen_blk hbT 0
        have zct1 := frozen_blk hbT 1
        have zct2 := frozen_blk hbT 2
        have zct3 := frozen_blk hbT 3
        have zct4 := frozen_blk hbT 4
        have zct5 := frozen_blk hbT 5
        have zct6 := frozen_blk hbT 6
        have lR := lt_blk hbR
        have lT := lt_blk hbT
        have HCH := hid (HG.out.chg rfl)
        clear hbR hbT hs3 hs5 HG HJ9 HJ
        try go_wp2_with (first
            | fail
            | (
              with_reducible refine wp_region_mix (by kernel_rfl) (by decide +kernel) ?_
              repeat (first
                | (refine mix_pure rfl ?_; (first | go_big_quiet_skip | (go_big_quiet_want; go_big_quiet_op; go_big_quiet_on)); refine wpQuiet_nil ?_)
                | (refine mix_skip (by rfl) ?_; (try simp only [Act.put, List.setIfInBounds_toArray, List.set_cons_zero, List.set_cons_succ]))
                | (refine mix_mk rfl (by rfl) (fun K hK => ?_); (first | (go_simp; first | skip)); (show K _ _); refine hK _ _ (show Ext _ _ from zq0) ?_; clear hK K; (try simp only [Act.put, List.setIfInBounds_toArray, List.set_cons_zero, List.set_cons_succ])))
              refine mix_nil ?_)
            | (
              with_reducible refine wp_region_ext (by kernel_rfl) (by kernel_rfl) ?_
              repeat (first | go_big_quiet_skip | (go_big_quiet_want; go_big_quiet_op; first | go_big_quiet_on | (apply Exists.intro; refine ⟨fun _ => ?_, ?_⟩; (fail); (try rw [h1]); (try rw [h2]); (try rw [h3]); (try rw [h4]); (try rw [p1]); (try rw [p2]); (try rw [p3]); (try rw [p4]); (try rw [r1]); (try rw [r2]); (try rw [r3]); (try rw [r4]); (try rw [r5]); (try rw [r6]); (try rw [q3]); (try rw [q4]); (try rw [hp]); (try rw [hq]); go_big_quiet_on)))
              refine wpQuiet_nil ?_
              rintro _ ⟨tq, rfl⟩))
        refine bodyPost_ret (v := .tuple #[.agg #[.int .i64 xm.c, .int .i64 xm.w], .slice a9 xl c9, .agg #[.int .i64 xg.src, .int .i64 xg.count, .int .i64 xg.wk.id, .int .i64 xg.wk.at_, .int .i64 xg.wk.coins, .int .i64 xg.wk.seq, .int .i64 xg.wk.last]]) (by simp [results, Try.results47, go_sem, cR0, cR1, ct0, ct1, ct2, ct3, ct4, ct5, ct6, lR, lT]) rfl ?_
        exact ⟨xm, _, xs, xg, rfl, ⟨B, HLY.out.chg HCH.out (fun b hb => by have := HB1.out b hb; simp; omega), fun b hb => by have := HB1.out b hb; omega⟩, HXL.out, HCY.out.chgB HCH.out (by simp; omega)⟩
  · try go_wp2_with (first
        | fail
        | (
          with_reducible refine wp_region_mix (by kernel_rfl) (by decide +kernel) ?_
          repeat (first
            | (refine mix_pure rfl ?_; (first | go_big_quiet_skip | (go_big_quiet_want; go_big_quiet_op; go_big_quiet_on)); refine wpQuiet_nil ?_)
            | (refine mix_skip (by rfl) ?_; (try simp only [Act.put, List.setIfInBounds_toArray, List.set_cons_zero, List.set_cons_succ]))
            | (refine mix_mk rfl (by rfl) (fun K hK => ?_); (first | (go_simp; first | skip)); (show K _ _); refine hK _ _ (show Ext _ _ from zq0) ?_; clear hK K; (try simp only [Act.put, List.setIfInBounds_toArray, List.set_cons_zero, List.set_cons_succ])))
          refine mix_nil ?_)
        | (
          with_reducible refine wp_region_ext (by kernel_rfl) (by kernel_rfl) ?_
          repeat (first | go_big_quiet_skip | (go_big_quiet_want; go_big_quiet_op; first | go_big_quiet_on | (apply Exists.intro; refine ⟨fun _ => ?_, ?_⟩; (fail); (try rw [h1]); (try rw [h2]); (try rw [h3]); (try rw [h4]); (try rw [p1]); (try rw [p2]); (try rw [p3]); (try rw [p4]); (try rw [r1]); (try rw [r2]); (try rw [r3]); (try rw [r4]); (try rw [r5]); (try rw [r6]); (try rw [q3]); (try rw [q4]); (try rw [hp]); (try rw [hq]); go_big_quiet_on)))
          refine wpQuiet_nil ?_
          rintro _ ⟨tq, rfl⟩))
    refine wp_gen fun Z9 hX => ?_
    obtain ⟨G, hGe⟩ : ∃ G, Z.heap.size = G := ⟨_, rfl⟩
    have EX : Ext Z Z9 := by rw [hX]; ((try simp only [ext_drew]); (try simp only [ext_ext]); repeat (first | exact Ext.refl _ | with_reducible apply Ext.add | with_reducible apply Ext.dr | apply Ext.alloc | apply Ext.ext | apply Ext.drew | refine Ext.trans ?_ (by assumption)))
    have bG : Z9.heap[G]? = some (oGst g) := by rw [hX, ← hGe]; exact zq3
    have HHZ := hid (show Held [(G, IsGst), (M, fun o => o = oMp m), (R, IsMp), (T, IsGst)] Z9 from Held.cons bG ⟨_, rfl⟩ (Held.cons ((EX.block lMZ).trans bM) rfl (Held.cons ((EX.block (lt_blk bR)).trans bR) ⟨_, rfl⟩ (Held.cons ((EX.block (lt_blk bT)).trans bT) ⟨_, rfl⟩ Held.nil))))
    have HLZ := hid (HRO.out.of EX)
    have hsR := lt_blk bR
    have hsT := lt_blk bT
    have hsp := HRZ.out.lt
    have HRZ := hid (HRZ.out.of EX)
    have HCZ := hid (HEZ.out.trans EX)
    rw [hGe]
    have hGR : G ≠ R := by omega
    have hGT : G ≠ T := by omega
    have hGM : G ≠ M := by omega
    have hGp : G ≠ p := by omega
    have hwG : w.heap.size ≤ G := by omega
    have hb1G : w1.heap.size ≤ G := by omega
    have hMG : M < G := by omega
    clear hX EX hGe bG bM bR bT HEZ HRO lMZ
    obtain ⟨Z, hZ⟩ : ∃ Z, Z9 = Z := ⟨_, rfl⟩
    rw [hZ] at HRZ HHZ HCZ HLZ ⊢
    clear hZ
    refine wp_gen fun Y hY => ?_
    have EY : Ext Z Y := by rw [hY]; ((try simp only [ext_drew]); (try simp only [ext_ext]); repeat (first | exact Ext.refl _ | with_reducible apply Ext.add | with_reducible apply Ext.dr | apply Ext.alloc | apply Ext.ext | apply Ext.drew | refine Ext.trans ?_ (by assumption)))
    have HJ := hid (show Rdr R p 20000 Y ∧ Held [(G, IsGst), (M, fun o => o = oMp m), (R, IsMp), (T, IsGst)] Y from ⟨(HRZ.out.of EY).up (by omega), HHZ.out.of EY⟩)
    have HCY := hid (HCZ.out.trans EY)
    have HLY := hid (HLZ.out.of EY)
    obtain ⟨_, hb0, _⟩ := HJ.out.2.at (.head _)
    obtain ⟨_, hb1, _⟩ := HJ.out.2.at (.tail _ (.head _))
    obtain ⟨_, hb2, _⟩ := HJ.out.2.at (.tail _ (.tail _ (.head _)))
    obtain ⟨_, hb3, _⟩ := HJ.out.2.at (.tail _ (.tail _ (.tail _ (.head _))))
    have lG0 := lt_blk hb0
    have lM0 := lt_blk hb1
    have lR0 := lt_blk hb2
    have lT0 := lt_blk hb3
    have hpW := HJ.out.1.lt
    clear hY EY HRZ HCZ HHZ HLZ hb0 hb1 hb2 hb3
    refine wp_region_flowD [some 45, some 46, some 47, none, some 3, none] (fun a b => ChgT Y.heap.size [p, R, T] (fun _ => False) a b) (fun i a b => match i with | 3 => Chg [R] a b | 5 => Chg [T] a b | _ => Chg [p] a b) (fun k9 w9 => Rdr R p (20000 + 1 * k9) w9 ∧ Held [(G, IsGst), (M, fun o => o = oMp m), (R, IsMp), (T, IsGst)] w9) (fun i v9 w9 => match i with
      | 0 => v9 = .agg #[.int .i64 (m.c), .int .i64 (m.w)]
      | 1 => v9 = .slice a9 xs.length c9
      | 2 => InG (v9)
      | 3 => BlkP R (fun o => ∃ x, o = oMp x ∧ True) w9
      | 4 => v9 = .slice a9 xs.length c9
      | _ => BlkP T (fun o => ∃ x, o = oGst x ∧ True) w9) (by kernel_rfl) (by decide +kernel) (by simp) (fun a => ChgT.refl _ _ _ a) (fun a b c h k => ChgT.trans h k) ?_ (ChgT.of (Chg.drew (Chg.refl [] _)) (by simp)) ?_ ?_ ?_ ?_
    · intro i a b hi hG
      have hi9 : i < 6 := hi
      clear hi
      match i, hi9, hG with
      | 0, _, hG => exact ChgT.of hG (by simp; omega)
      | 1, _, hG => exact ChgT.of hG (by simp; omega)
      | 2, _, hG => exact ChgT.of hG (by simp; omega)
      | 3, _, hG => exact ChgT.of hG (by simp; omega)
      | 4, _, hG => exact ChgT.of hG (by simp; omega)
      | 5, _, hG => exact ChgT.of hG (by simp; omega)
      | n + 6, h9, _ => exact absurd h9 (by omega)
    · exact ⟨HJ.out.1.of zq0, HJ.out.2.drw⟩
    · intro i j hi hj hij v9 w9 w8 hg hS hG
      have hi9 : i < 6 := hi
      have hj9 : j < 6 := hj
      have hG0 := hG
      have hG2 : ChgT Y.heap.size [p, R, T] (fun _ => False) w9 w8 := by
        clear hG0 hij hi hj hS
        match i, hi9, hG with
        | 0, _, hG => exact ChgT.of hG (by simp; omega)
        | 1, _, hG => exact ChgT.of hG (by simp; omega)
        | 2, _, hG => exact ChgT.of hG (by simp; omega)
        | 3, _, hG => exact ChgT.of hG (by simp; omega)
        | 4, _, hG => exact ChgT.of hG (by simp; omega)
        | 5, _, hG => exact ChgT.of hG (by simp; omega)
        | n + 6, h9, _ => exact absurd h9 (by omega)
      clear hi hj hG
      match j, hj9 with
      | 0, _ => exact hS
      | 1, _ => exact hS
      | 2, _ => exact hS
      | 3, _ =>
        match i, hi9, hG0, hij with
        | 0, _, hG, _ => exact BlkP.chg hS hG (by simp; omega)
        | 1, _, hG, _ => exact BlkP.chg hS hG (by simp; omega)
        | 2, _, hG, _ => exact BlkP.chg hS hG (by simp; omega)
        | 3, _, _, h9 => exact absurd rfl h9
        | 4, _, hG, _ => exact BlkP.chg hS hG (by simp; omega)
        | 5, _, hG, _ => exact BlkP.chg hS hG (by simp; omega)
        | n + 6, h9, _, _ => exact absurd h9 (by omega)
      | 4, _ => exact hS
      | 5, _ =>
        match i, hi9, hG0, hij with
        | 0, _, hG, _ => exact BlkP.chg hS hG (by simp; omega)
        | 1, _, hG, _ => exact BlkP.chg hS hG (by simp; omega)
        | 2, _, hG, _ => exact BlkP.chg hS hG (by simp; omega)
        | 3, _, hG, _ => exact BlkP.chg hS hG (by simp; omega)
        | 4, _, hG, _ => exact BlkP.chg hS hG (by simp; omega)
        | 5, _, _, h9 => exact absurd rfl h9
        | n + 6, h9, _, _ => exact absurd h9 (by omega)
      | n + 6, h9 => exact absurd h9 (by omega)
    · intro i oo ho σ k9 w9 hG hk9 hJ hd
      have HG := hid hG
      have HJ9 := hid hJ
      have hW9 := hG.size
      have hkN : k9 < 6 := hk9
      have hi9 : i < 6 := (List.getElem?_eq_some_iff.1 ho).1
      clear hG hJ hk9
      match i, hi9, ho with
      | 0, _, ho =>
        obtain ⟨_, hbm, rfl⟩ := HJ9.out.2.at (.tail _ (.head _))
        have cM0 := (cell_blk hbm 0).trans (show _ = some (Value.int .i64 m.c) from rfl)
        have cM1 := (cell_blk hbm 1).trans (show _ = some (Value.int .i64 m.w) from rfl)
        have zM0 := frozen_blk hbm 0
        have zM1 := frozen_blk hbm 1
        have lM9 := lt_blk hbm
        clear hbm
        obtain rfl := Option.some.inj ho
        clear hd ho
        simp only [actO, putO, List.setIfInBounds_toArray, List.set_cons_zero, List.set_cons_succ, Nat.reduceAdd]
        refine flow_K (fun K hK => ?_)
        go_simp
        (show K _ _)
        refine hK _ _ ⟨_, rfl, by simp, Chg.of_ext (show Ext _ _ from zq0) _, ⟨(HJ9.out.1.of (show Ext _ _ from zq0)).up (by omega), HJ9.out.2.of (show Ext _ _ from zq0)⟩, rfl⟩
      | 1, _, ho =>
        obtain rfl := Option.some.inj ho
        clear hd ho
        simp only [actO, putO, List.setIfInBounds_toArray, List.set_cons_zero, List.set_cons_succ, Nat.reduceAdd]
        refine flow_K (fun K hK => ?_)
        go_simp
        (show K _ _)
        refine hK _ _ ⟨_, rfl, by simp, Chg.of_ext (show Ext _ _ from zq0) _, ⟨(HJ9.out.1.of (show Ext _ _ from zq0)).up (by omega), HJ9.out.2.of (show Ext _ _ from zq0)⟩, rfl⟩
      | 2, _, ho =>
        obtain ⟨_, hb, x0, rfl⟩ := HJ9.out.2.at (.head _)
        have cU0 := (cell_blk hb 0).trans (show _ = some (Value.int .i64 x0.src) from rfl)
        have zU0 := frozen_blk hb 0
        have cU1 := (cell_blk hb 1).trans (show _ = some (Value.int .i64 x0.count) from rfl)
        have zU1 := frozen_blk hb 1
        have cU2 := (cell_blk hb 2).trans (show _ = some (Value.int .i64 x0.wk.id) from rfl)
        have zU2 := frozen_blk hb 2
        have cU3 := (cell_blk hb 3).trans (show _ = some (Value.int .i64 x0.wk.at_) from rfl)
        have zU3 := frozen_blk hb 3
        have cU4 := (cell_blk hb 4).trans (show _ = some (Value.int .i64 x0.wk.coins) from rfl)
        have zU4 := frozen_blk hb 4
        have cU5 := (cell_blk hb 5).trans (show _ = some (Value.int .i64 x0.wk.seq) from rfl)
        have zU5 := frozen_blk hb 5
        have cU6 := (cell_blk hb 6).trans (show _ = some (Value.int .i64 x0.wk.last) from rfl)
        have zU6 := frozen_blk hb 6
        have lU := lt_blk hb
        clear hb
        obtain rfl := Option.some.inj ho
        clear hd ho
        simp only [actO, putO, List.setIfInBounds_toArray, List.set_cons_zero, List.set_cons_succ, Nat.reduceAdd]
        refine flow_K (fun K hK => ?_)
        go_simp
        (show K _ _)
        refine hK _ _ ⟨_, rfl, by simp, Chg.of_ext (show Ext _ _ from zq0) _, ⟨(HJ9.out.1.of (show Ext _ _ from zq0)).up (by omega), HJ9.out.2.of (show Ext _ _ from zq0)⟩, ⟨x0, rfl, trivial⟩⟩
      | 3, _, ho =>
        have e0 : σ 0 = .agg #[.int .i64 (m.c), .int .i64 (m.w)] := hd 0 (by obtain rfl := Option.some.inj ho; kernel_rfl)
        obtain ⟨_, hb0, x0, rfl⟩ := HJ9.out.2.at (.tail _ (.tail _ (.head _)))
        have cR0 := (cell_blk hb0 0).trans rfl
        have zR0 := frozen_blk hb0 0
        have cR1 := (cell_blk hb0 1).trans rfl
        have zR1 := frozen_blk hb0 1
        have lR9 := lt_blk hb0
        have HB0 := hid hb0
        clear hb0
        obtain rfl := Option.some.inj ho
        clear hd ho
        simp only [actO, putO, List.setIfInBounds_toArray, List.set_cons_zero, List.set_cons_succ, Nat.reduceAdd, e0]
        refine flow_K (fun K hK => ?_)
        go_simp
        (show K _ _)
        refine hK _ _ ⟨undef, rfl, fun _ => rfl, zq1, ⟨(HJ9.out.1.chg (B := [R]) zq1 (by simp; omega) (Nat.le_refl _)).up (by omega), HJ9.out.2.put (R := R) zq1 (o := oMp m) (mp_store (x := m) HB0.out) (fun q hq hqR => ?_)⟩, ⟨_, mp_store (x := m) HB0.out, _, rfl, trivial⟩⟩
        simp only [List.mem_cons, List.not_mem_nil, or_false] at hq
        rcases hq with rfl | rfl | rfl | rfl
        · exact absurd hqR (by dsimp only; omega)
        · exact absurd hqR (by dsimp only; omega)
        · exact ⟨_, rfl⟩
        · exact absurd hqR (by dsimp only; omega)
      | 4, _, ho =>
        have e1 : σ 1 = .slice a9 xs.length c9 := hd 1 (by obtain rfl := Option.some.inj ho; kernel_rfl)
        obtain rfl := Option.some.inj ho
        clear hd ho
        simp only [actO, putO, List.setIfInBounds_toArray, List.set_cons_zero, List.set_cons_succ, Nat.reduceAdd, e1]
        refine flow_K (fun K hK => ?_)
        go_simp
        (show K _ _)
        refine hK _ _ ⟨_, rfl, by simp, Chg.of_ext (show Ext _ _ from zq0) _, ⟨(HJ9.out.1.of (show Ext _ _ from zq0)).up (by omega), HJ9.out.2.of (show Ext _ _ from zq0)⟩, rfl⟩
      | 5, _, ho =>
        obtain ⟨x2, e2, h2⟩ : InG (σ 2) := hd 2 (by obtain rfl := Option.some.inj ho; kernel_rfl)
        obtain ⟨_, hb0, x0, rfl⟩ := HJ9.out.2.at (.tail _ (.tail _ (.tail _ (.head _))))
        have cR0 := (cell_blk hb0 0).trans rfl
        have zR0 := frozen_blk hb0 0
        have cR1 := (cell_blk hb0 1).trans rfl
        have zR1 := frozen_blk hb0 1
        have cR2 := (cell_blk hb0 2).trans rfl
        have zR2 := frozen_blk hb0 2
        have cR3 := (cell_blk hb0 3).trans rfl
        have zR3 := frozen_blk hb0 3
        have cR4 := (cell_blk hb0 4).trans rfl
        have zR4 := frozen_blk hb0 4
        have cR5 := (cell_blk hb0 5).trans rfl
        have zR5 := frozen_blk hb0 5
        have cR6 := (cell_blk hb0 6).trans rfl
        have zR6 := frozen_blk hb0 6
        have lR9 := lt_blk hb0
        have HB0 := hid hb0
        clear hb0
        obtain rfl := Option.some.inj ho
        clear hd ho
        simp only [actO, putO, List.setIfInBounds_toArray, List.set_cons_zero, List.set_cons_succ, Nat.reduceAdd, e2]
        refine flow_K (fun K hK => ?_)
        go_simp
        (show K _ _)
        refine hK _ _ ⟨undef, rfl, fun _ => rfl, zq1, ⟨(HJ9.out.1.chg (B := [T]) zq1 (by simp; omega) (Nat.le_refl _)).up (by omega), HJ9.out.2.put (R := T) zq1 (o := oGst x2) (gst_store (x := x2) HB0.out) (fun q hq hqR => ?_)⟩, ⟨_, gst_store (x := x2) HB0.out, _, rfl, trivial⟩⟩
        simp only [List.mem_cons, List.not_mem_nil, or_false] at hq
        rcases hq with rfl | rfl | rfl | rfl
        · exact absurd hqR (by dsimp only; omega)
        · exact absurd hqR (by dsimp only; omega)
        · exact absurd hqR (by dsimp only; omega)
        · exact ⟨_, rfl⟩
    · intro σ w9 hG hJ hd
      have e0 : σ 0 = .agg #[.int .i64 (m.c), .int .i64 (m.w)] := hd 0 (by decide)
      have e1 : σ 1 = .slice a9 xs.length c9 := hd 1 (by decide)
      obtain ⟨x2, e2, h2⟩ : InG (σ 2) := hd 2 (by decide)
      obtain ⟨_, hs3, x3, rfl, h3⟩ : BlkP R (fun o => ∃ x, o = oMp x ∧ True) _ := hd 3 (by decide)
      have e4 : σ 4 = .slice a9 xs.length c9 := hd 4 (by decide)
      obtain ⟨_, hs5, x5, rfl, h5⟩ : BlkP T (fun o => ∃ x, o = oGst x ∧ True) _ := hd 5 (by decide)
      have HG := hid hG
      have HJ9 := hid (show Rdr R p (20000 + 1 * 6) w9 ∧ Held [(G, IsGst), (M, fun o => o = oMp m), (R, IsMp), (T, IsGst)] w9 from hJ)
      clear hd hG hJ
      simp only [actO, putO, List.setIfInBounds_toArray, List.set_cons_zero, List.set_cons_succ, Nat.reduceAdd, e0, e1, e2, e4]
      clear e0 e1 e2 e4
      obtain ⟨_, hbR, xm, rfl, _⟩ := (show BlkP R (fun o => ∃ x, o = oMp x ∧ True) w9 from ⟨_, hs3, x3, rfl, trivial⟩)
      obtain ⟨_, hbT, xg, rfl, _⟩ := (show BlkP T (fun o => ∃ x, o = oGst x ∧ True) w9 from ⟨_, hs5, x5, rfl, trivial⟩)
      have cR0 : w9.cell? ⟨R, 0, none⟩ = some (.int .i64 xm.c) := (cell_blk hbR 0).trans rfl
      have cR1 : w9.cell? ⟨R, 1, none⟩ = some (.int .i64 xm.w) := (cell_blk hbR 1).trans rfl
      have ct0 : w9.cell? ⟨T, 0, none⟩ = some (.int .i64 xg.src) := (cell_blk hbT 0).trans rfl
      have ct1 : w9.cell? ⟨T, 1, none⟩ = some (.int .i64 xg.count) := (cell_blk hbT 1).trans rfl
      have ct2 : w9.cell? ⟨T, 2, none⟩ = some (.int .i64 xg.wk.id) := (cell_blk hbT 2).trans rfl
      have ct3 : w9.cell? ⟨T, 3, none⟩ = some (.int .i64 xg.wk.at_) := (cell_blk hbT 3).trans rfl
      have ct4 : w9.cell? ⟨T, 4, none⟩ = some (.int .i64 xg.wk.coins) := (cell_blk hbT 4).trans rfl
      have ct5 : w9.cell? ⟨T, 5, none⟩ = some (.int .i64 xg.wk.seq) := (cell_blk hbT 5).trans rfl
      have ct6 : w9.cell? ⟨T, 6, none⟩ = some (.int .i64 xg.wk.last) := (cell_blk hbT 6).trans rfl
      have zct0 := frozen_blk hbT 0
      have zct1 := frozen_blk hbT 1
      have zct2 := frozen_blk hbT 2
      have zct3 := frozen_blk hbT 3
      have zct4 := frozen_blk hbT 4
      have zct5 := frozen_blk hbT 5
      have zct6 := frozen_blk hbT 6
      have lR := lt_blk hbR
      have lT := lt_blk hbT
      have HCH := hid (HG.out.chg rfl)
      clear hbR hbT hs3 hs5 HG HJ9 HJ
      try go_wp2_with (first
          | fail
          | (
            with_reducible refine wp_region_mix (by kernel_rfl) (by decide +kernel) ?_
            repeat (first
              | (refine mix_pure rfl ?_; (first | go_big_quiet_skip | (go_big_quiet_want; go_big_quiet_op; go_big_quiet_on)); refine wpQuiet_nil ?_)
              | (refine mix_skip (by rfl) ?_; (try simp only [Act.put, List.setIfInBounds_toArray, List.set_cons_zero, List.set_cons_succ]))
              | (refine mix_mk rfl (by rfl) (fun K hK => ?_); (first | (go_simp; first | skip)); (show K _ _); refine hK _ _ (show Ext _ _ from zq0) ?_; clear hK K; (try simp only [Act.put, List.setIfInBounds_toArray, List.set_cons_zero, List.set_cons_succ])))
            refine mix_nil ?_)
          | (
            with_reducible refine wp_region_ext (by kernel_rfl) (by kernel_rfl) ?_
            repeat (first | go_big_quiet_skip | (go_big_quiet_want; go_big_quiet_op; first | go_big_quiet_on | (apply Exists.intro; refine ⟨fun _ => ?_, ?_⟩; (fail); (try rw [h1]); (try rw [h2]); (try rw [h3]); (try rw [h4]); (try rw [p1]); (try rw [p2]); (try rw [p3]); (try rw [p4]); (try rw [r1]); (try rw [r2]); (try rw [r3]); (try rw [r4]); (try rw [r5]); (try rw [r6]); (try rw [q3]); (try rw [q4]); (try rw [hp]); (try rw [hq]); go_big_quiet_on)))
            refine wpQuiet_nil ?_
            rintro _ ⟨tq, rfl⟩))
      refine bodyPost_ret (v := .tuple #[.agg #[.int .i64 xm.c, .int .i64 xm.w], .slice a9 xs.length c9, .agg #[.int .i64 xg.src, .int .i64 xg.count, .int .i64 xg.wk.id, .int .i64 xg.wk.at_, .int .i64 xg.wk.coins, .int .i64 xg.wk.seq, .int .i64 xg.wk.last]]) (by simp [results, Try.results47, go_sem, cR0, cR1, ct0, ct1, ct2, ct3, ct4, ct5, ct6, lR, lT]) rfl ?_
      exact ⟨xm, _, xs, xg, rfl, ⟨B, HLY.out.chg HCH.out (fun b hb => by have := HB1.out b hb; simp; omega), fun b hb => by have := HB1.out b hb; omega⟩, HXL.out, HCY.out.chgB HCH.out (by simp; omega)⟩
end Go.Proofs.Ytbbpipbemhggdaa

namespace Go.Proofs.Ytbbpipbemhggdaa
open Go.RowKit
set_option linter.unusedSimpArgs false
set_option linter.unusedVariables false

theorem gstAll_iff {m : Mp} {xs : List Gst} : gstAll m xs = true ↔ (∀ x ∈ xs, gstOk m x = true) ∧ xs.Pairwise (fun a b => gstLess a b = true) := by
  unfold gstAll
  rw [allI_iff]
  constructor
  · intro h
    refine ⟨fun x hx => ?_, ?_⟩
    · obtain ⟨k, hk⟩ := List.getElem?_of_mem hx
      have := h k x hk
      simp only [gstAt, Bool.and_eq_true] at this
      exact this.1
    · rw [List.pairwise_iff_getElem]
      have adj : ∀ (i : Nat) (x y : Gst), xs[i]? = some x → xs[i + 1]? = some y → gstLess x y = true := fun i x y hx hy => by
        have := h (i + 1) y hy
        simp only [gstAt, Bool.and_eq_true, Nat.zero_add] at this
        rw [relAt_pos rfl hx] at this
        exact this.2
      intro i j hi hj hij
      obtain ⟨d, rfl⟩ : ∃ d, j = i + 1 + d := ⟨j - i - 1, by omega⟩
      induction d with
      | zero => exact adj i _ _ (List.getElem?_eq_getElem hi) (List.getElem?_eq_getElem hj)
      | succ d ih =>
        have h1 := gstLess_iff.1 (ih (by omega) (by omega))
        have h2 := gstLess_iff.1 (adj (i + 1 + d) _ _ (List.getElem?_eq_getElem (by omega)) (List.getElem?_eq_getElem hj))
        exact gstLess_iff.2 (by omega)
  · rintro ⟨h1, h2⟩ k x hx
    simp only [gstAt, Bool.and_eq_true, Nat.zero_add]
    refine ⟨h1 x (List.mem_of_getElem? hx), ?_⟩
    cases k with
    | zero => rfl
    | succ k =>
      obtain ⟨y, hy⟩ : ∃ y, xs[k]? = some y := ⟨_, List.getElem?_eq_getElem (by have := (List.getElem?_eq_some_iff.1 hx).1; omega)⟩
      rw [relAt_pos rfl hy]
      obtain ⟨hk, rfl⟩ := List.getElem?_eq_some_iff.1 hx
      obtain ⟨hk', rfl⟩ := List.getElem?_eq_some_iff.1 hy
      exact List.pairwise_iff_getElem.1 h2 k (k + 1) hk' hk (by omega)
theorem recL_mem {n : Nat} {g : Gst} : ∀ {xs : List Gst} {y : Gst}, y ∈ recL n g xs → y = g ∨ y ∈ xs
  | [], y, h => by
    simp only [recL] at h
    split at h <;> simp at h
    exact .inl h
  | x :: r, y, h => by
    simp only [recL] at h
    split at h
    · rcases List.mem_cons.1 h with h | h
      · exact .inr (by simp [h])
      · rcases recL_mem h with h | h
        · exact .inl h
        · exact .inr (by simp [h])
    · split at h
      · split at h
        · rcases List.mem_cons.1 h with h | h
          · exact .inl h
          · exact .inr h
        · exact .inr h
      · rcases List.mem_cons.1 h with h | h
        · unfold zG at h; split at h
          · exact .inl h
          · exact .inr (by simp [h])
        · exact .inr (by simp [h])
theorem same_of {g x : Gst} (h1 : ¬ gstLess x g = true) (h2 : ¬ gstLess g x = true) : x.src = g.src ∧ x.wk.id = g.wk.id := by
  rw [gstLess_iff] at h1 h2; omega
theorem zG_key {g x : Gst} (h : x.src = g.src ∧ x.wk.id = g.wk.id) : (zG g x).src = x.src ∧ (zG g x).wk.id = x.wk.id := by
  unfold zG; split
  · exact ⟨h.1.symm, h.2.symm⟩
  · exact ⟨rfl, rfl⟩
theorem recL_sorted {n : Nat} {g : Gst} : ∀ {xs : List Gst}, xs.Pairwise (fun a b => gstLess a b = true) → (recL n g xs).Pairwise (fun a b => gstLess a b = true)
  | [], _ => by simp only [recL]; split <;> simp
  | x :: r, h => by
    obtain ⟨h1, h2⟩ := List.pairwise_cons.1 h
    simp only [recL]
    split
    · rename_i hx
      refine List.pairwise_cons.2 ⟨fun y hy => ?_, recL_sorted h2⟩
      rcases recL_mem hy with rfl | hy
      · exact hx
      · exact h1 y hy
    · split
      · rename_i hx hg
        split
        · refine List.pairwise_cons.2 ⟨fun y hy => ?_, h⟩
          rcases List.mem_cons.1 hy with rfl | hy
          · exact hg
          · have a1 := gstLess_iff.1 hg
            have a2 := gstLess_iff.1 (h1 y hy)
            exact gstLess_iff.2 (by omega)
        · exact h
      · rename_i hx hg
        have hk := same_of hx hg
        have hz := zG_key hk
        refine List.pairwise_cons.2 ⟨fun y hy => ?_, h2⟩
        have := gstLess_iff.1 (h1 y hy)
        exact gstLess_iff.2 (by omega)
theorem recL_full {n : Nat} {g : Gst} (hn : ¬ n < 20) : ∀ xs : List Gst, (recL n g xs).length = xs.length
  | [] => by simp [recL, hn]
  | x :: r => by
    simp only [recL, hn, if_false]
    split
    · simp [recL_full hn r]
    · split <;> simp
theorem less_key {f g x : Gst} (h : f.src = g.src ∧ f.wk.id = g.wk.id) : gstLess x f = gstLess x g ∧ gstLess f x = gstLess g x := by
  unfold gstLess; rw [h.1, h.2]; exact ⟨rfl, rfl⟩
theorem less_self {f g : Gst} (h : f.src = g.src ∧ f.wk.id = g.wk.id) : gstLess f g = false ∧ gstLess g f = false := by
  constructor <;> rw [gstLess_no] <;> omega
theorem zG_comm {f g x : Gst} (h : f.count ≠ g.count) : zG f (zG g x) = zG g (zG f x) := by
  unfold zG
  repeat' split
  all_goals first | rfl | omega
theorem zG_comm2 {f g : Gst} (h : f.count ≠ g.count) : zG f g = zG g f := by
  unfold zG
  repeat' split
  all_goals first | rfl | omega
/-- Two of one walker from one cell, in either order: where there is room. -/
theorem recL_comm {n n1 n2 : Nat} {f g : Gst} (hk : f.src = g.src ∧ f.wk.id = g.wk.id) (hc : f.count ≠ g.count) (hn : n < 20) : ∀ xs : List Gst, recL n1 f (recL n g xs) = recL n2 g (recL n f xs)
  | [] => by
    have h1 := less_self hk
    simp only [recL, hn, if_true, h1.1, h1.2, Bool.false_eq_true, if_false]
    rw [zG_comm2 hc]
  | x :: r => by
    have hl := less_key (x := x) hk
    have hs := less_self hk
    cases hx : gstLess x g with
    | true =>
      simp only [recL, hx, hl.1, if_true]
      rw [recL_comm hk hc hn r]
    | false =>
      cases hg : gstLess g x with
      | true =>
        simp only [recL, hx, hg, hl.1, hl.2, hn, if_true, Bool.false_eq_true, if_false, hs.1, hs.2]
        rw [zG_comm2 hc]
      | false =>
        have hq := same_of (by rw [hx]; decide) (by rw [hg]; decide)
        have hz := zG_key hq
        have hzf := zG_key (g := f) (x := x) (by omega)
        have a1 := less_self (f := f) (g := zG g x) (by omega)
        have a2 := less_self (f := g) (g := zG f x) (by omega)
        simp only [recL, hx, hg, hl.1, hl.2, Bool.false_eq_true, if_false, a1.1, a1.2, a2.1, a2.2]
        rw [zG_comm hc]
/-- The same where there is no room. -/
theorem recL_comm_full {n : Nat} {f g : Gst} (hk : f.src = g.src ∧ f.wk.id = g.wk.id) (hc : f.count ≠ g.count) (hn : ¬ n < 20) : ∀ xs : List Gst, recL n f (recL n g xs) = recL n g (recL n f xs)
  | [] => by simp only [recL, hn, if_false]
  | x :: r => by
    have hl := less_key (x := x) hk
    cases hx : gstLess x g with
    | true =>
      simp only [recL, hx, hl.1, if_true]
      rw [recL_comm_full hk hc hn r]
    | false =>
      cases hg : gstLess g x with
      | true => simp only [recL, hx, hg, hl.1, hl.2, hn, if_true, Bool.false_eq_true, if_false]
      | false =>
        have hq := same_of (by rw [hx]; decide) (by rw [hg]; decide)
        have hz := zG_key hq
        have hzf := zG_key (g := f) (x := x) (by omega)
        have a1 := less_self (f := f) (g := zG g x) (by omega)
        have a2 := less_self (f := g) (g := zG f x) (by omega)
        simp only [recL, hx, hg, hl.1, hl.2, Bool.false_eq_true, if_false, a1.1, a1.2, a2.1, a2.2]
        rw [zG_comm hc]
theorem zG_idem {g x : Gst} : zG g (zG g x) = zG g x := by
  unfold zG
  repeat' split
  all_goals first | rfl | omega
theorem recL_idem {n n1 : Nat} {g : Gst} (hn : n < 20) : ∀ xs : List Gst, recL n1 g (recL n g xs) = recL n g xs
  | [] => by
    have h1 := less_self (f := g) (g := g) ⟨rfl, rfl⟩
    simp only [recL, hn, if_true, h1.1, Bool.false_eq_true, if_false]
    simp [zG]
  | x :: r => by
    have h1 := less_self (f := g) (g := g) ⟨rfl, rfl⟩
    cases hx : gstLess x g with
    | true =>
      simp only [recL, hx, if_true]
      rw [recL_idem hn r]
    | false =>
      cases hg : gstLess g x with
      | true =>
        simp only [recL, hx, hg, hn, if_true, Bool.false_eq_true, if_false, h1.1]
        simp [zG]
      | false =>
        have hq := same_of (by rw [hx]; decide) (by rw [hg]; decide)
        have hz := zG_key hq
        have a2 := less_self (f := g) (g := zG g x) (by omega)
        simp only [recL, hx, hg, Bool.false_eq_true, if_false, a2.1, a2.2]
        rw [zG_idem]
theorem recL_idem_full {n : Nat} {g : Gst} (hn : ¬ n < 20) : ∀ xs : List Gst, recL n g (recL n g xs) = recL n g xs
  | [] => by simp only [recL, hn, if_false]
  | x :: r => by
    cases hx : gstLess x g with
    | true =>
      simp only [recL, hx, if_true]
      rw [recL_idem_full hn r]
    | false =>
      cases hg : gstLess g x with
      | true => simp only [recL, hx, hg, hn, if_true, Bool.false_eq_true, if_false]
      | false =>
        have hq := same_of (by rw [hx]; decide) (by rw [hg]; decide)
        have hz := zG_key hq
        have a2 := less_self (f := g) (g := zG g x) (by omega)
        simp only [recL, hx, hg, Bool.false_eq_true, if_false, a2.1, a2.2]
        rw [zG_idem]
theorem recL_later {n : Nat} {g : Gst} : ∀ {xs : List Gst}, xs.Pairwise (fun a b => gstLess a b = true) → ∀ y ∈ recL n g xs, sameG g y = true → ¬ y.count < g.count
  | [], _, y, hy, hs => by
    simp only [recL] at hy
    split at hy <;> simp at hy
    subst hy; omega
  | x :: r, h, y, hy, hs => by
    obtain ⟨h1, h2⟩ := List.pairwise_cons.1 h
    have hk := sameG_iff.1 hs
    simp only [recL] at hy
    split at hy
    · rename_i hx
      rcases List.mem_cons.1 hy with rfl | hy
      · have := gstLess_iff.1 hx; omega
      · exact recL_later h2 y hy hs
    · split at hy
      · rename_i hx hg
        have a := gstLess_iff.1 hg
        split at hy
        · rcases List.mem_cons.1 hy with rfl | hy
          · omega
          · rcases List.mem_cons.1 hy with rfl | hy
            · omega
            · have := gstLess_iff.1 (h1 y hy); omega
        · rcases List.mem_cons.1 hy with rfl | hy
          · omega
          · have := gstLess_iff.1 (h1 y hy); omega
      · rename_i hx hg
        have hq := same_of hx hg
        rcases List.mem_cons.1 hy with rfl | hy
        · unfold zG; split <;> omega
        · have := gstLess_iff.1 (h1 y hy); omega
theorem recL_kept {n : Nat} {g : Gst} (hn : n < 20) : ∀ xs : List Gst, (recL n g xs).any (sameG g) = true
  | [] => by simp [recL, hn, sameG]
  | x :: r => by
    simp only [recL, hn, if_true]
    split
    · simp [recL_kept hn r]
    · split
      · simp [sameG]
      · rename_i hx hg
        have hq := same_of hx hg
        have hz := zG_key hq
        have : sameG g (zG g x) = true := sameG_iff.2 (by omega)
        simp [this]
/-- What the law says, all at once. -/
theorem put_law {m : Mp} {xs ys : List Gst} {g f : Gst} (ha : gstAll m xs = true) (hl : xs.length ≤ 20) (hg : gstOk m g = true) (hf : gstOk m f = true) (hk : f.src = g.src ∧ f.wk.id = g.wk.id) (hy : gstPutV m xs g = ys) :
    (gstAll m ys = true ∧ ys.length ≤ 20) ∧ (∀ y ∈ ys, sameG g y = true → ¬ y.count < g.count) ∧ (ys.any (sameG g) = true ∨ xs.length = 20) ∧ gstPutV m ys g = ys ∧ (f.count ≠ g.count → gstPutV m ys f = gstPutV m (gstPutV m xs f) g) := by
  obtain ⟨h1, h2⟩ := gstAll_iff.1 ha
  have key : ∀ (q : Gst), gstOk m q = true → gstPutV m xs q = recL xs.length q xs ∧ gstAll m (recL xs.length q xs) = true ∧ (recL xs.length q xs).length ≤ 20 := fun q hq => by
    refine ⟨by rw [gstPutV, if_pos (by rw [ha, hq]; simp [hl])], gstAll_iff.2 ⟨fun y hy => ?_, recL_sorted h2⟩, ?_⟩
    · rcases recL_mem hy with rfl | hy
      · exact hq
      · exact h1 y hy
    · by_cases hn : xs.length < 20
      · have := recL_len xs.length q xs; omega
      · rw [recL_full hn]; exact hl
  obtain ⟨e1, e2, e3⟩ := key g hg
  obtain ⟨f1, f2, f3⟩ := key f hf
  rw [e1] at hy
  subst hy
  have e4 : ∀ (zs : List Gst) (q : Gst), gstAll m zs = true → zs.length ≤ 20 → gstOk m q = true → gstPutV m zs q = recL zs.length q zs := fun zs q a b c => by rw [gstPutV, if_pos (by rw [a, c]; simp [b])]
  refine ⟨⟨e2, e3⟩, recL_later h2, ?_, ?_, fun hc => ?_⟩
  · by_cases hn : xs.length < 20
    · exact .inl (recL_kept hn xs)
    · exact .inr (by omega)
  · rw [e4 _ _ e2 e3 hg]
    by_cases hn : xs.length < 20
    · exact recL_idem hn xs
    · rw [recL_full hn]; exact recL_idem_full hn xs
  · rw [e4 _ _ e2 e3 hf, f1, e4 _ _ f2 f3 hg]
    by_cases hn : xs.length < 20
    · exact recL_comm hk hc hn xs
    · rw [recL_full hn, recL_full hn]; exact recL_comm_full hk hc hn xs
end Go.Proofs.Ytbbpipbemhggdaa

