/- Lists of walkers that are ok: each is, and they stand in the order of their numbers. -/
import Derived.Test.YtdogknbkcididaaTWlk
import Derived.Test.YtdogknbkcididaaAll
import Derived.Test.YtdogknbkcididaaOk
namespace Go.Proofs.Ytdogknbkcididaa
open Go.RowKit

/-- The element stands behind the one ahead of it. -/
def ordAt {α : Type} (key : α → Int) (xs : List α) (i : Nat) (x : α) : Bool := (i == 0) || decide (((xs[i - 1]?).map key).getD 0 < key x)
theorem ordAt_zero {α : Type} (key : α → Int) (xs : List α) (x : α) : ordAt key xs 0 x = true := rfl
theorem ordAt_succ {α : Type} {key : α → Int} {xs : List α} {j : Nat} {y : α} (h : xs[j]? = some y) (x : α) : ordAt key xs (j + 1) x = decide (key y < key x) := by
  simp [ordAt, h]
theorem ordAt_pos {α : Type} {key : α → Int} {xs : List α} {k j : Nat} {y : α} (e : k = j + 1) (h : xs[j]? = some y) (x : α) : ordAt key xs k x = decide (key y < key x) := by subst e; exact ordAt_succ h x
theorem ordAt_nul {α : Type} {key : α → Int} {xs : List α} {k : Nat} (e : k = 0) (x : α) : ordAt key xs k x = true := by subst e; rfl
def wlkAt (m : Mp) (xs : List Wlk) (i : Nat) (x : Wlk) : Bool := wlkOk m x && ordAt Wlk.id xs i x
def wlkAll (m : Mp) (xs : List Wlk) : Bool := allI (wlkAt m xs) 0 xs

set_option maxRecDepth 100000 in
set_option maxHeartbeats 2000000 in
theorem iWlkListOk_c (m : Mp) (xs : List Wlk) (a : Option Addr) (n c : Nat) (w : World) (hx : Re w (.sl sWlk) [.slice a n c] (.l (xs.map Wlk.dat))) (hn : n ≤ 1048576) :
    Calls Try.prog 75 #[.agg #[.int .i64 m.c, .int .i64 m.w], .slice a n c] w fun e w' => e = .returned (.bool (wlkAll m xs && plcOk m)) ∧ Ext w w' := by
  have HX := hid hx
  clear hx
  go_enter Try.func75, Try.ntmps75
  try go_wp2_with (first
      | fail
      | (
        with_reducible refine wp_region_mix (by kernel_rfl) (by decide +kernel) ?_
        repeat (first
          | (refine mix_pure rfl ?_; (first | go_big_quiet_skip | (go_big_quiet_want; go_big_quiet_op; go_big_quiet_on)); refine wpQuiet_nil ?_)
          | (refine mix_skip (by rfl) ?_; (try simp only [Act.put, List.setIfInBounds_toArray, List.set_cons_zero, List.set_cons_succ]))
          | (refine mix_mk rfl (by rfl) (fun K hK => ?_); (first | (go_simp; first | skip)); (show K _ _); refine hK _ _ (show Ext _ _ from (by ((try simp only [ext_drew]); (try simp only [ext_ext]); repeat (first | exact Ext.refl _ | with_reducible apply Ext.add | with_reducible apply Ext.dr | apply Ext.alloc | apply Ext.ext | apply Ext.drew | refine Ext.trans ?_ (by assumption))))) ?_; clear hK K; (try simp only [Act.put, List.setIfInBounds_toArray, List.set_cons_zero, List.set_cons_succ])))
        refine mix_nil ?_)
      | (
        with_reducible refine wp_region_ext (by kernel_rfl) (by kernel_rfl) ?_
        repeat (first | go_big_quiet_skip | (go_big_quiet_want; go_big_quiet_op; first | go_big_quiet_on | (apply Exists.intro; refine ⟨fun _ => ?_, ?_⟩; (fail); (try rw [h1]); (try rw [h2]); (try rw [h3]); (try rw [h4]); (try rw [p1]); (try rw [p2]); (try rw [p3]); (try rw [p4]); (try rw [r1]); (try rw [r2]); (try rw [r3]); (try rw [r4]); (try rw [r5]); (try rw [r6]); (try rw [q3]); (try rw [q4]); (try rw [hp]); (try rw [hq]); go_big_quiet_on)))
        refine wpQuiet_nil ?_
        rintro _ ⟨tq, rfl⟩))
  go_loopw [9] (fun i wr => ∃ k : Nat, k ≤ n ∧ i = .int .i64 k ∧ allI (wlkAt m xs) 0 (xs.take k) = true ∧ Ext (w.alloc (Obj.cells #[.int .i64 m.c, .int .i64 m.w] 34)) wr) (fun i _ => n - (intOf i).toNat)
  case atStart => exact ⟨0, Nat.zero_le _, rfl, rfl, (by ((try simp only [ext_drew]); (try simp only [ext_ext]); repeat (first | exact Ext.refl _ | with_reducible apply Ext.add | with_reducible apply Ext.dr | apply Ext.alloc | apply Ext.ext | apply Ext.drew | refine Ext.trans ?_ (by assumption))))⟩
  case round =>
    obtain ⟨k, hk, rfl, hal, t', rfl⟩ := hrel
    have HA := hid hal
    clear hal
    by_cases hlt : k < n
    · obtain ⟨x, b, o, hxk, rfl, hb, f0, f1, f2, f3, f4⟩ := at_Wlk HX.out hlt
      have HK := hid hxk
      clear hxk
      have hb1 : b ≤ w.heap.size := Nat.le_of_lt hb
      cases h1 : wlkOk m x with
      | false =>
        have E := hid (show wlkAll m xs = false from allI_fail (p := wlkAt m xs) HK.out (by simp [wlkAt, h1]))
        try go_wp2_with (first
            | (go_at_call 90; refine (iWlkOk_c _ _ _).mono ?_; rintro e w' ⟨rfl, t, rfl⟩) | (go_at_call 91; refine (iPlcOk_c _ _).mono ?_; rintro e w' ⟨rfl, t, rfl⟩)
            | (
              with_reducible refine wp_region_mix (by kernel_rfl) (by decide +kernel) ?_
              repeat (first
                | (refine mix_pure rfl ?_; (first | go_big_quiet_skip | (go_big_quiet_want; go_big_quiet_op; go_big_quiet_on)); refine wpQuiet_nil ?_)
                | (refine mix_skip (by rfl) ?_; (try simp only [Act.put, List.setIfInBounds_toArray, List.set_cons_zero, List.set_cons_succ]))
                | (refine mix_mk rfl (by rfl) (fun K hK => ?_); (first | (go_simp; first | (go_at_call 90; refine (iWlkOk_c _ _ _).mono ?_; rintro e w' ⟨rfl, t, rfl⟩) | (go_at_call 91; refine (iPlcOk_c _ _).mono ?_; rintro e w' ⟨rfl, t, rfl⟩) | skip)); (show K _ _); refine hK _ _ (show Ext _ _ from (by ((try simp only [ext_drew]); (try simp only [ext_ext]); repeat (first | exact Ext.refl _ | with_reducible apply Ext.add | with_reducible apply Ext.dr | apply Ext.alloc | apply Ext.ext | apply Ext.drew | refine Ext.trans ?_ (by assumption))))) ?_; clear hK K; (try simp only [Act.put, List.setIfInBounds_toArray, List.set_cons_zero, List.set_cons_succ])))
              refine mix_nil ?_)
            | (
              with_reducible refine wp_region_ext (by kernel_rfl) (by kernel_rfl) ?_
              repeat (first | go_big_quiet_skip | (go_big_quiet_want; go_big_quiet_op; first | go_big_quiet_on | (apply Exists.intro; refine ⟨fun _ => ?_, ?_⟩; ((first | (go_at_call 90; first | exact quiet_call (iWlkOk_c _ _ _) | exact quiet_call2 (iWlkOk_c _ _ _)) | (go_at_call 91; first | exact quiet_call (iPlcOk_c _ _) | exact quiet_call2 (iPlcOk_c _ _)))); (try rw [h1]); (try rw [h2]); (try rw [h3]); (try rw [h4]); (try rw [p1]); (try rw [p2]); (try rw [p3]); (try rw [p4]); (try rw [r1]); (try rw [r2]); (try rw [r3]); (try rw [r4]); (try rw [r5]); (try rw [r6]); (try rw [q3]); (try rw [q4]); (try rw [hp]); (try rw [hq]); go_big_quiet_on)))
              refine wpQuiet_nil ?_
              rintro _ ⟨tq, rfl⟩))
        go_ret
        exact ⟨ret_bool (by rw [E.out]; try rfl), (by ((try simp only [ext_drew]); (try simp only [ext_ext]); repeat (first | exact Ext.refl _ | with_reducible apply Ext.add | with_reducible apply Ext.dr | apply Ext.alloc | apply Ext.ext | apply Ext.drew | refine Ext.trans ?_ (by assumption))))⟩
      | true =>
        rcases Nat.eq_zero_or_pos k with hk0 | hk0
        · have HZ := hid hk0
          have hz : ¬ (0 : Int) < (k : Int) := by omega
          have hz1 : ¬ 0 < k := by omega
          clear hk0
          have HB := hid (allI_step (p := wlkAt m xs) HK.out HA.out (by simp [wlkAt, h1, ordAt_nul HZ.out]))
          try go_wp2_with (first
              | (go_at_call 90; refine (iWlkOk_c _ _ _).mono ?_; rintro e w' ⟨rfl, t, rfl⟩) | (go_at_call 91; refine (iPlcOk_c _ _).mono ?_; rintro e w' ⟨rfl, t, rfl⟩)
              | (
                with_reducible refine wp_region_mix (by kernel_rfl) (by decide +kernel) ?_
                repeat (first
                  | (refine mix_pure rfl ?_; (first | go_big_quiet_skip | (go_big_quiet_want; go_big_quiet_op; go_big_quiet_on)); refine wpQuiet_nil ?_)
                  | (refine mix_skip (by rfl) ?_; (try simp only [Act.put, List.setIfInBounds_toArray, List.set_cons_zero, List.set_cons_succ]))
                  | (refine mix_mk rfl (by rfl) (fun K hK => ?_); (first | (go_simp; first | (go_at_call 90; refine (iWlkOk_c _ _ _).mono ?_; rintro e w' ⟨rfl, t, rfl⟩) | (go_at_call 91; refine (iPlcOk_c _ _).mono ?_; rintro e w' ⟨rfl, t, rfl⟩) | skip)); (show K _ _); refine hK _ _ (show Ext _ _ from (by ((try simp only [ext_drew]); (try simp only [ext_ext]); repeat (first | exact Ext.refl _ | with_reducible apply Ext.add | with_reducible apply Ext.dr | apply Ext.alloc | apply Ext.ext | apply Ext.drew | refine Ext.trans ?_ (by assumption))))) ?_; clear hK K; (try simp only [Act.put, List.setIfInBounds_toArray, List.set_cons_zero, List.set_cons_succ])))
                refine mix_nil ?_)
              | (
                with_reducible refine wp_region_ext (by kernel_rfl) (by kernel_rfl) ?_
                repeat (first | go_big_quiet_skip | (go_big_quiet_want; go_big_quiet_op; first | go_big_quiet_on | (apply Exists.intro; refine ⟨fun _ => ?_, ?_⟩; ((first | (go_at_call 90; first | exact quiet_call (iWlkOk_c _ _ _) | exact quiet_call2 (iWlkOk_c _ _ _)) | (go_at_call 91; first | exact quiet_call (iPlcOk_c _ _) | exact quiet_call2 (iPlcOk_c _ _)))); (try rw [h1]); (try rw [h2]); (try rw [h3]); (try rw [h4]); (try rw [p1]); (try rw [p2]); (try rw [p3]); (try rw [p4]); (try rw [r1]); (try rw [r2]); (try rw [r3]); (try rw [r4]); (try rw [r5]); (try rw [r6]); (try rw [q3]); (try rw [q4]); (try rw [hp]); (try rw [hq]); go_big_quiet_on)))
                refine wpQuiet_nil ?_
                rintro _ ⟨tq, rfl⟩))
          go_roundw
          case rel => exact ⟨k + 1, by omega, by go_num, HB.out, (by ((try simp only [ext_drew]); (try simp only [ext_ext]); repeat (first | exact Ext.refl _ | with_reducible apply Ext.add | with_reducible apply Ext.dr | apply Ext.alloc | apply Ext.ext | apply Ext.drew | refine Ext.trans ?_ (by assumption))))⟩
          case measure => simp [intOf]; omega
        · obtain ⟨j, hkj⟩ : ∃ j, k = j + 1 := ⟨k - 1, by omega⟩
          have HJ := hid hkj
          have hpos : (0 : Int) < (k : Int) := by omega
          have hpos1 : 0 < k := by omega
          have hpre : (k : Int) - 1 = (j : Int) := by omega
          clear hk0 hkj
          obtain ⟨y, b2, o2, hyk, hab, hb2, g0, g1, g2, g3, g4⟩ := at_Wlk HX.out (show j < n by have := HJ.out; omega)
          simp only [Option.some.injEq, Addr.mk.injEq, and_true] at hab
          obtain ⟨rfl, rfl⟩ := hab
          have HY := hid hyk
          clear hyk
          by_cases hq : y.id < x.id
          · have HB := hid (allI_step (p := wlkAt m xs) HK.out HA.out (by simp [wlkAt, h1, ordAt_pos HJ.out HY.out, hq]))
            try go_wp2_with (first
                | (go_at_call 90; refine (iWlkOk_c _ _ _).mono ?_; rintro e w' ⟨rfl, t, rfl⟩) | (go_at_call 91; refine (iPlcOk_c _ _).mono ?_; rintro e w' ⟨rfl, t, rfl⟩)
                | (
                  with_reducible refine wp_region_mix (by kernel_rfl) (by decide +kernel) ?_
                  repeat (first
                    | (refine mix_pure rfl ?_; (first | go_big_quiet_skip | (go_big_quiet_want; go_big_quiet_op; go_big_quiet_on)); refine wpQuiet_nil ?_)
                    | (refine mix_skip (by rfl) ?_; (try simp only [Act.put, List.setIfInBounds_toArray, List.set_cons_zero, List.set_cons_succ]))
                    | (refine mix_mk rfl (by rfl) (fun K hK => ?_); (first | (go_simp; first | (go_at_call 90; refine (iWlkOk_c _ _ _).mono ?_; rintro e w' ⟨rfl, t, rfl⟩) | (go_at_call 91; refine (iPlcOk_c _ _).mono ?_; rintro e w' ⟨rfl, t, rfl⟩) | skip)); (show K _ _); refine hK _ _ (show Ext _ _ from (by ((try simp only [ext_drew]); (try simp only [ext_ext]); repeat (first | exact Ext.refl _ | with_reducible apply Ext.add | with_reducible apply Ext.dr | apply Ext.alloc | apply Ext.ext | apply Ext.drew | refine Ext.trans ?_ (by assumption))))) ?_; clear hK K; (try simp only [Act.put, List.setIfInBounds_toArray, List.set_cons_zero, List.set_cons_succ])))
                  refine mix_nil ?_)
                | (
                  with_reducible refine wp_region_ext (by kernel_rfl) (by kernel_rfl) ?_
                  repeat (first | go_big_quiet_skip | (go_big_quiet_want; go_big_quiet_op; first | go_big_quiet_on | (apply Exists.intro; refine ⟨fun _ => ?_, ?_⟩; ((first | (go_at_call 90; first | exact quiet_call (iWlkOk_c _ _ _) | exact quiet_call2 (iWlkOk_c _ _ _)) | (go_at_call 91; first | exact quiet_call (iPlcOk_c _ _) | exact quiet_call2 (iPlcOk_c _ _)))); (try rw [h1]); (try rw [h2]); (try rw [h3]); (try rw [h4]); (try rw [p1]); (try rw [p2]); (try rw [p3]); (try rw [p4]); (try rw [r1]); (try rw [r2]); (try rw [r3]); (try rw [r4]); (try rw [r5]); (try rw [r6]); (try rw [q3]); (try rw [q4]); (try rw [hp]); (try rw [hq]); go_big_quiet_on)))
                  refine wpQuiet_nil ?_
                  rintro _ ⟨tq, rfl⟩))
            go_roundw
            case rel => exact ⟨k + 1, by omega, by go_num, HB.out, (by ((try simp only [ext_drew]); (try simp only [ext_ext]); repeat (first | exact Ext.refl _ | with_reducible apply Ext.add | with_reducible apply Ext.dr | apply Ext.alloc | apply Ext.ext | apply Ext.drew | refine Ext.trans ?_ (by assumption))))⟩
            case measure => simp [intOf]; omega
          · have hq' : x.id ≤ y.id := by omega
            have E := hid (show wlkAll m xs = false from allI_fail (p := wlkAt m xs) HK.out (by simp [wlkAt, ordAt_pos HJ.out HY.out, hq']))
            try go_wp2_with (first
                | (go_at_call 90; refine (iWlkOk_c _ _ _).mono ?_; rintro e w' ⟨rfl, t, rfl⟩) | (go_at_call 91; refine (iPlcOk_c _ _).mono ?_; rintro e w' ⟨rfl, t, rfl⟩)
                | (
                  with_reducible refine wp_region_mix (by kernel_rfl) (by decide +kernel) ?_
                  repeat (first
                    | (refine mix_pure rfl ?_; (first | go_big_quiet_skip | (go_big_quiet_want; go_big_quiet_op; go_big_quiet_on)); refine wpQuiet_nil ?_)
                    | (refine mix_skip (by rfl) ?_; (try simp only [Act.put, List.setIfInBounds_toArray, List.set_cons_zero, List.set_cons_succ]))
                    | (refine mix_mk rfl (by rfl) (fun K hK => ?_); (first | (go_simp; first | (go_at_call 90; refine (iWlkOk_c _ _ _).mono ?_; rintro e w' ⟨rfl, t, rfl⟩) | (go_at_call 91; refine (iPlcOk_c _ _).mono ?_; rintro e w' ⟨rfl, t, rfl⟩) | skip)); (show K _ _); refine hK _ _ (show Ext _ _ from (by ((try simp only [ext_drew]); (try simp only [ext_ext]); repeat (first | exact Ext.refl _ | with_reducible apply Ext.add | with_reducible apply Ext.dr | apply Ext.alloc | apply Ext.ext | apply Ext.drew | refine Ext.trans ?_ (by assumption))))) ?_; clear hK K; (try simp only [Act.put, List.setIfInBounds_toArray, List.set_cons_zero, List.set_cons_succ])))
                  refine mix_nil ?_)
                | (
                  with_reducible refine wp_region_ext (by kernel_rfl) (by kernel_rfl) ?_
                  repeat (first | go_big_quiet_skip | (go_big_quiet_want; go_big_quiet_op; first | go_big_quiet_on | (apply Exists.intro; refine ⟨fun _ => ?_, ?_⟩; ((first | (go_at_call 90; first | exact quiet_call (iWlkOk_c _ _ _) | exact quiet_call2 (iWlkOk_c _ _ _)) | (go_at_call 91; first | exact quiet_call (iPlcOk_c _ _) | exact quiet_call2 (iPlcOk_c _ _)))); (try rw [h1]); (try rw [h2]); (try rw [h3]); (try rw [h4]); (try rw [p1]); (try rw [p2]); (try rw [p3]); (try rw [p4]); (try rw [r1]); (try rw [r2]); (try rw [r3]); (try rw [r4]); (try rw [r5]); (try rw [r6]); (try rw [q3]); (try rw [q4]); (try rw [hp]); (try rw [hq]); go_big_quiet_on)))
                  refine wpQuiet_nil ?_
                  rintro _ ⟨tq, rfl⟩))
            go_ret
            exact ⟨ret_bool (by rw [E.out]; try rfl), (by ((try simp only [ext_drew]); (try simp only [ext_ext]); repeat (first | exact Ext.refl _ | with_reducible apply Ext.add | with_reducible apply Ext.dr | apply Ext.alloc | apply Ext.ext | apply Ext.drew | refine Ext.trans ?_ (by assumption))))⟩
    · have E := hid (show wlkAll m xs = true from allI_all (p := wlkAt m xs) (xs := xs) (k := k) (by rw [← HX.out.len]; omega) HA.out)
      try go_wp2_with (first
          | (go_at_call 91; refine (iPlcOk_c _ _).mono ?_; rintro e w' ⟨rfl, t, rfl⟩)
          | (
            with_reducible refine wp_region_mix (by kernel_rfl) (by decide +kernel) ?_
            repeat (first
              | (refine mix_pure rfl ?_; (first | go_big_quiet_skip | (go_big_quiet_want; go_big_quiet_op; go_big_quiet_on)); refine wpQuiet_nil ?_)
              | (refine mix_skip (by rfl) ?_; (try simp only [Act.put, List.setIfInBounds_toArray, List.set_cons_zero, List.set_cons_succ]))
              | (refine mix_mk rfl (by rfl) (fun K hK => ?_); (first | (go_simp; first | (go_at_call 91; refine (iPlcOk_c _ _).mono ?_; rintro e w' ⟨rfl, t, rfl⟩) | skip)); (show K _ _); refine hK _ _ (show Ext _ _ from (by ((try simp only [ext_drew]); (try simp only [ext_ext]); repeat (first | exact Ext.refl _ | with_reducible apply Ext.add | with_reducible apply Ext.dr | apply Ext.alloc | apply Ext.ext | apply Ext.drew | refine Ext.trans ?_ (by assumption))))) ?_; clear hK K; (try simp only [Act.put, List.setIfInBounds_toArray, List.set_cons_zero, List.set_cons_succ])))
            refine mix_nil ?_)
          | (
            with_reducible refine wp_region_ext (by kernel_rfl) (by kernel_rfl) ?_
            repeat (first | go_big_quiet_skip | (go_big_quiet_want; go_big_quiet_op; first | go_big_quiet_on | (apply Exists.intro; refine ⟨fun _ => ?_, ?_⟩; ((first | (go_at_call 91; first | exact quiet_call (iPlcOk_c _ _) | exact quiet_call2 (iPlcOk_c _ _)))); (try rw [h1]); (try rw [h2]); (try rw [h3]); (try rw [h4]); (try rw [p1]); (try rw [p2]); (try rw [p3]); (try rw [p4]); (try rw [r1]); (try rw [r2]); (try rw [r3]); (try rw [r4]); (try rw [r5]); (try rw [r6]); (try rw [q3]); (try rw [q4]); (try rw [hp]); (try rw [hq]); go_big_quiet_on)))
            refine wpQuiet_nil ?_
            rintro _ ⟨tq, rfl⟩))
      go_ret
      exact ⟨ret_bool (by rw [E.out]; try rfl), (by ((try simp only [ext_drew]); (try simp only [ext_ext]); repeat (first | exact Ext.refl _ | with_reducible apply Ext.add | with_reducible apply Ext.dr | apply Ext.alloc | apply Ext.ext | apply Ext.drew | refine Ext.trans ?_ (by assumption))))⟩

set_option maxRecDepth 100000 in
set_option maxHeartbeats 2000000 in
theorem sWlkListOk_c (m : Mp) (xs : List Wlk) (a : Option Addr) (n c : Nat) (w : World) (hx : Re w (.sl sWlk) [.slice a n c] (.l (xs.map Wlk.dat))) (hn : n ≤ 1048576) :
    Calls Try.prog 71 #[.agg #[.int .i64 m.c, .int .i64 m.w], .slice a n c] w fun e w' => e = .returned (.bool (wlkAll m xs)) ∧ Ext w w' := by
  have HX := hid hx
  clear hx
  go_enter Try.func71, Try.ntmps71
  try go_wp2_with (first
      | fail
      | (
        with_reducible refine wp_region_mix (by kernel_rfl) (by decide +kernel) ?_
        repeat (first
          | (refine mix_pure rfl ?_; (first | go_big_quiet_skip | (go_big_quiet_want; go_big_quiet_op; go_big_quiet_on)); refine wpQuiet_nil ?_)
          | (refine mix_skip (by rfl) ?_; (try simp only [Act.put, List.setIfInBounds_toArray, List.set_cons_zero, List.set_cons_succ]))
          | (refine mix_mk rfl (by rfl) (fun K hK => ?_); (first | (go_simp; first | skip)); (show K _ _); refine hK _ _ (show Ext _ _ from (by ((try simp only [ext_drew]); (try simp only [ext_ext]); repeat (first | exact Ext.refl _ | with_reducible apply Ext.add | with_reducible apply Ext.dr | apply Ext.alloc | apply Ext.ext | apply Ext.drew | refine Ext.trans ?_ (by assumption))))) ?_; clear hK K; (try simp only [Act.put, List.setIfInBounds_toArray, List.set_cons_zero, List.set_cons_succ])))
        refine mix_nil ?_)
      | (
        with_reducible refine wp_region_ext (by kernel_rfl) (by kernel_rfl) ?_
        repeat (first | go_big_quiet_skip | (go_big_quiet_want; go_big_quiet_op; first | go_big_quiet_on | (apply Exists.intro; refine ⟨fun _ => ?_, ?_⟩; (fail); (try rw [h1]); (try rw [h2]); (try rw [h3]); (try rw [h4]); (try rw [p1]); (try rw [p2]); (try rw [p3]); (try rw [p4]); (try rw [r1]); (try rw [r2]); (try rw [r3]); (try rw [r4]); (try rw [r5]); (try rw [r6]); (try rw [q3]); (try rw [q4]); (try rw [hp]); (try rw [hq]); go_big_quiet_on)))
        refine wpQuiet_nil ?_
        rintro _ ⟨tq, rfl⟩))
  go_loopw [5] (fun i wr => ∃ k : Nat, k ≤ n ∧ i = .int .i64 k ∧ allI (wlkAt m xs) 0 (xs.take k) = true ∧ Ext (w.alloc (Obj.cells #[.int .i64 m.c, .int .i64 m.w] 34)) wr) (fun i _ => n - (intOf i).toNat)
  case atStart => exact ⟨0, Nat.zero_le _, rfl, rfl, (by ((try simp only [ext_drew]); (try simp only [ext_ext]); repeat (first | exact Ext.refl _ | with_reducible apply Ext.add | with_reducible apply Ext.dr | apply Ext.alloc | apply Ext.ext | apply Ext.drew | refine Ext.trans ?_ (by assumption))))⟩
  case round =>
    obtain ⟨k, hk, rfl, hal, t', rfl⟩ := hrel
    have HA := hid hal
    clear hal
    by_cases hlt : k < n
    · obtain ⟨x, b, o, hxk, rfl, hb, f0, f1, f2, f3, f4⟩ := at_Wlk HX.out hlt
      have HK := hid hxk
      clear hxk
      have hb1 : b ≤ w.heap.size := Nat.le_of_lt hb
      cases h1 : wlkOk m x with
      | false =>
        have E := hid (show wlkAll m xs = false from allI_fail (p := wlkAt m xs) HK.out (by simp [wlkAt, h1]))
        try go_wp2_with (first
            | (go_at_call 87; refine (sWlkOk_c _ _ _).mono ?_; rintro e w' ⟨rfl, t, rfl⟩)
            | (
              with_reducible refine wp_region_mix (by kernel_rfl) (by decide +kernel) ?_
              repeat (first
                | (refine mix_pure rfl ?_; (first | go_big_quiet_skip | (go_big_quiet_want; go_big_quiet_op; go_big_quiet_on)); refine wpQuiet_nil ?_)
                | (refine mix_skip (by rfl) ?_; (try simp only [Act.put, List.setIfInBounds_toArray, List.set_cons_zero, List.set_cons_succ]))
                | (refine mix_mk rfl (by rfl) (fun K hK => ?_); (first | (go_simp; first | (go_at_call 87; refine (sWlkOk_c _ _ _).mono ?_; rintro e w' ⟨rfl, t, rfl⟩) | skip)); (show K _ _); refine hK _ _ (show Ext _ _ from (by ((try simp only [ext_drew]); (try simp only [ext_ext]); repeat (first | exact Ext.refl _ | with_reducible apply Ext.add | with_reducible apply Ext.dr | apply Ext.alloc | apply Ext.ext | apply Ext.drew | refine Ext.trans ?_ (by assumption))))) ?_; clear hK K; (try simp only [Act.put, List.setIfInBounds_toArray, List.set_cons_zero, List.set_cons_succ])))
              refine mix_nil ?_)
            | (
              with_reducible refine wp_region_ext (by kernel_rfl) (by kernel_rfl) ?_
              repeat (first | go_big_quiet_skip | (go_big_quiet_want; go_big_quiet_op; first | go_big_quiet_on | (apply Exists.intro; refine ⟨fun _ => ?_, ?_⟩; ((first | (go_at_call 87; first | exact quiet_call (sWlkOk_c _ _ _) | exact quiet_call2 (sWlkOk_c _ _ _)))); (try rw [h1]); (try rw [h2]); (try rw [h3]); (try rw [h4]); (try rw [p1]); (try rw [p2]); (try rw [p3]); (try rw [p4]); (try rw [r1]); (try rw [r2]); (try rw [r3]); (try rw [r4]); (try rw [r5]); (try rw [r6]); (try rw [q3]); (try rw [q4]); (try rw [hp]); (try rw [hq]); go_big_quiet_on)))
              refine wpQuiet_nil ?_
              rintro _ ⟨tq, rfl⟩))
        go_ret
        exact ⟨ret_bool (by rw [E.out]; try rfl), (by ((try simp only [ext_drew]); (try simp only [ext_ext]); repeat (first | exact Ext.refl _ | with_reducible apply Ext.add | with_reducible apply Ext.dr | apply Ext.alloc | apply Ext.ext | apply Ext.drew | refine Ext.trans ?_ (by assumption))))⟩
      | true =>
        rcases Nat.eq_zero_or_pos k with hk0 | hk0
        · have HZ := hid hk0
          have hz : ¬ (0 : Int) < (k : Int) := by omega
          have hz1 : ¬ 0 < k := by omega
          clear hk0
          have HB := hid (allI_step (p := wlkAt m xs) HK.out HA.out (by simp [wlkAt, h1, ordAt_nul HZ.out]))
          try go_wp2_with (first
              | (go_at_call 87; refine (sWlkOk_c _ _ _).mono ?_; rintro e w' ⟨rfl, t, rfl⟩)
              | (
                with_reducible refine wp_region_mix (by kernel_rfl) (by decide +kernel) ?_
                repeat (first
                  | (refine mix_pure rfl ?_; (first | go_big_quiet_skip | (go_big_quiet_want; go_big_quiet_op; go_big_quiet_on)); refine wpQuiet_nil ?_)
                  | (refine mix_skip (by rfl) ?_; (try simp only [Act.put, List.setIfInBounds_toArray, List.set_cons_zero, List.set_cons_succ]))
                  | (refine mix_mk rfl (by rfl) (fun K hK => ?_); (first | (go_simp; first | (go_at_call 87; refine (sWlkOk_c _ _ _).mono ?_; rintro e w' ⟨rfl, t, rfl⟩) | skip)); (show K _ _); refine hK _ _ (show Ext _ _ from (by ((try simp only [ext_drew]); (try simp only [ext_ext]); repeat (first | exact Ext.refl _ | with_reducible apply Ext.add | with_reducible apply Ext.dr | apply Ext.alloc | apply Ext.ext | apply Ext.drew | refine Ext.trans ?_ (by assumption))))) ?_; clear hK K; (try simp only [Act.put, List.setIfInBounds_toArray, List.set_cons_zero, List.set_cons_succ])))
                refine mix_nil ?_)
              | (
                with_reducible refine wp_region_ext (by kernel_rfl) (by kernel_rfl) ?_
                repeat (first | go_big_quiet_skip | (go_big_quiet_want; go_big_quiet_op; first | go_big_quiet_on | (apply Exists.intro; refine ⟨fun _ => ?_, ?_⟩; ((first | (go_at_call 87; first | exact quiet_call (sWlkOk_c _ _ _) | exact quiet_call2 (sWlkOk_c _ _ _)))); (try rw [h1]); (try rw [h2]); (try rw [h3]); (try rw [h4]); (try rw [p1]); (try rw [p2]); (try rw [p3]); (try rw [p4]); (try rw [r1]); (try rw [r2]); (try rw [r3]); (try rw [r4]); (try rw [r5]); (try rw [r6]); (try rw [q3]); (try rw [q4]); (try rw [hp]); (try rw [hq]); go_big_quiet_on)))
                refine wpQuiet_nil ?_
                rintro _ ⟨tq, rfl⟩))
          go_roundw
          case rel => exact ⟨k + 1, by omega, by go_num, HB.out, (by ((try simp only [ext_drew]); (try simp only [ext_ext]); repeat (first | exact Ext.refl _ | with_reducible apply Ext.add | with_reducible apply Ext.dr | apply Ext.alloc | apply Ext.ext | apply Ext.drew | refine Ext.trans ?_ (by assumption))))⟩
          case measure => simp [intOf]; omega
        · obtain ⟨j, hkj⟩ : ∃ j, k = j + 1 := ⟨k - 1, by omega⟩
          have HJ := hid hkj
          have hpos : (0 : Int) < (k : Int) := by omega
          have hpos1 : 0 < k := by omega
          have hpre : (k : Int) - 1 = (j : Int) := by omega
          clear hk0 hkj
          obtain ⟨y, b2, o2, hyk, hab, hb2, g0, g1, g2, g3, g4⟩ := at_Wlk HX.out (show j < n by have := HJ.out; omega)
          simp only [Option.some.injEq, Addr.mk.injEq, and_true] at hab
          obtain ⟨rfl, rfl⟩ := hab
          have HY := hid hyk
          clear hyk
          by_cases hq : y.id < x.id
          · have HB := hid (allI_step (p := wlkAt m xs) HK.out HA.out (by simp [wlkAt, h1, ordAt_pos HJ.out HY.out, hq]))
            try go_wp2_with (first
                | (go_at_call 87; refine (sWlkOk_c _ _ _).mono ?_; rintro e w' ⟨rfl, t, rfl⟩)
                | (
                  with_reducible refine wp_region_mix (by kernel_rfl) (by decide +kernel) ?_
                  repeat (first
                    | (refine mix_pure rfl ?_; (first | go_big_quiet_skip | (go_big_quiet_want; go_big_quiet_op; go_big_quiet_on)); refine wpQuiet_nil ?_)
                    | (refine mix_skip (by rfl) ?_; (try simp only [Act.put, List.setIfInBounds_toArray, List.set_cons_zero, List.set_cons_succ]))
                    | (refine mix_mk rfl (by rfl) (fun K hK => ?_); (first | (go_simp; first | (go_at_call 87; refine (sWlkOk_c _ _ _).mono ?_; rintro e w' ⟨rfl, t, rfl⟩) | skip)); (show K _ _); refine hK _ _ (show Ext _ _ from (by ((try simp only [ext_drew]); (try simp only [ext_ext]); repeat (first | exact Ext.refl _ | with_reducible apply Ext.add | with_reducible apply Ext.dr | apply Ext.alloc | apply Ext.ext | apply Ext.drew | refine Ext.trans ?_ (by assumption))))) ?_; clear hK K; (try simp only [Act.put, List.setIfInBounds_toArray, List.set_cons_zero, List.set_cons_succ])))
                  refine mix_nil ?_)
                | (
                  with_reducible refine wp_region_ext (by kernel_rfl) (by kernel_rfl) ?_
                  repeat (first | go_big_quiet_skip | (go_big_quiet_want; go_big_quiet_op; first | go_big_quiet_on | (apply Exists.intro; refine ⟨fun _ => ?_, ?_⟩; ((first | (go_at_call 87; first | exact quiet_call (sWlkOk_c _ _ _) | exact quiet_call2 (sWlkOk_c _ _ _)))); (try rw [h1]); (try rw [h2]); (try rw [h3]); (try rw [h4]); (try rw [p1]); (try rw [p2]); (try rw [p3]); (try rw [p4]); (try rw [r1]); (try rw [r2]); (try rw [r3]); (try rw [r4]); (try rw [r5]); (try rw [r6]); (try rw [q3]); (try rw [q4]); (try rw [hp]); (try rw [hq]); go_big_quiet_on)))
                  refine wpQuiet_nil ?_
                  rintro _ ⟨tq, rfl⟩))
            go_roundw
            case rel => exact ⟨k + 1, by omega, by go_num, HB.out, (by ((try simp only [ext_drew]); (try simp only [ext_ext]); repeat (first | exact Ext.refl _ | with_reducible apply Ext.add | with_reducible apply Ext.dr | apply Ext.alloc | apply Ext.ext | apply Ext.drew | refine Ext.trans ?_ (by assumption))))⟩
            case measure => simp [intOf]; omega
          · have hq' : x.id ≤ y.id := by omega
            have E := hid (show wlkAll m xs = false from allI_fail (p := wlkAt m xs) HK.out (by simp [wlkAt, ordAt_pos HJ.out HY.out, hq']))
            try go_wp2_with (first
                | (go_at_call 87; refine (sWlkOk_c _ _ _).mono ?_; rintro e w' ⟨rfl, t, rfl⟩)
                | (
                  with_reducible refine wp_region_mix (by kernel_rfl) (by decide +kernel) ?_
                  repeat (first
                    | (refine mix_pure rfl ?_; (first | go_big_quiet_skip | (go_big_quiet_want; go_big_quiet_op; go_big_quiet_on)); refine wpQuiet_nil ?_)
                    | (refine mix_skip (by rfl) ?_; (try simp only [Act.put, List.setIfInBounds_toArray, List.set_cons_zero, List.set_cons_succ]))
                    | (refine mix_mk rfl (by rfl) (fun K hK => ?_); (first | (go_simp; first | (go_at_call 87; refine (sWlkOk_c _ _ _).mono ?_; rintro e w' ⟨rfl, t, rfl⟩) | skip)); (show K _ _); refine hK _ _ (show Ext _ _ from (by ((try simp only [ext_drew]); (try simp only [ext_ext]); repeat (first | exact Ext.refl _ | with_reducible apply Ext.add | with_reducible apply Ext.dr | apply Ext.alloc | apply Ext.ext | apply Ext.drew | refine Ext.trans ?_ (by assumption))))) ?_; clear hK K; (try simp only [Act.put, List.setIfInBounds_toArray, List.set_cons_zero, List.set_cons_succ])))
                  refine mix_nil ?_)
                | (
                  with_reducible refine wp_region_ext (by kernel_rfl) (by kernel_rfl) ?_
                  repeat (first | go_big_quiet_skip | (go_big_quiet_want; go_big_quiet_op; first | go_big_quiet_on | (apply Exists.intro; refine ⟨fun _ => ?_, ?_⟩; ((first | (go_at_call 87; first | exact quiet_call (sWlkOk_c _ _ _) | exact quiet_call2 (sWlkOk_c _ _ _)))); (try rw [h1]); (try rw [h2]); (try rw [h3]); (try rw [h4]); (try rw [p1]); (try rw [p2]); (try rw [p3]); (try rw [p4]); (try rw [r1]); (try rw [r2]); (try rw [r3]); (try rw [r4]); (try rw [r5]); (try rw [r6]); (try rw [q3]); (try rw [q4]); (try rw [hp]); (try rw [hq]); go_big_quiet_on)))
                  refine wpQuiet_nil ?_
                  rintro _ ⟨tq, rfl⟩))
            go_ret
            exact ⟨ret_bool (by rw [E.out]; try rfl), (by ((try simp only [ext_drew]); (try simp only [ext_ext]); repeat (first | exact Ext.refl _ | with_reducible apply Ext.add | with_reducible apply Ext.dr | apply Ext.alloc | apply Ext.ext | apply Ext.drew | refine Ext.trans ?_ (by assumption))))⟩
    · have E := hid (show wlkAll m xs = true from allI_all (p := wlkAt m xs) (xs := xs) (k := k) (by rw [← HX.out.len]; omega) HA.out)
      try go_wp2_with (first
          | fail
          | (
            with_reducible refine wp_region_mix (by kernel_rfl) (by decide +kernel) ?_
            repeat (first
              | (refine mix_pure rfl ?_; (first | go_big_quiet_skip | (go_big_quiet_want; go_big_quiet_op; go_big_quiet_on)); refine wpQuiet_nil ?_)
              | (refine mix_skip (by rfl) ?_; (try simp only [Act.put, List.setIfInBounds_toArray, List.set_cons_zero, List.set_cons_succ]))
              | (refine mix_mk rfl (by rfl) (fun K hK => ?_); (first | (go_simp; first | skip)); (show K _ _); refine hK _ _ (show Ext _ _ from (by ((try simp only [ext_drew]); (try simp only [ext_ext]); repeat (first | exact Ext.refl _ | with_reducible apply Ext.add | with_reducible apply Ext.dr | apply Ext.alloc | apply Ext.ext | apply Ext.drew | refine Ext.trans ?_ (by assumption))))) ?_; clear hK K; (try simp only [Act.put, List.setIfInBounds_toArray, List.set_cons_zero, List.set_cons_succ])))
            refine mix_nil ?_)
          | (
            with_reducible refine wp_region_ext (by kernel_rfl) (by kernel_rfl) ?_
            repeat (first | go_big_quiet_skip | (go_big_quiet_want; go_big_quiet_op; first | go_big_quiet_on | (apply Exists.intro; refine ⟨fun _ => ?_, ?_⟩; (fail); (try rw [h1]); (try rw [h2]); (try rw [h3]); (try rw [h4]); (try rw [p1]); (try rw [p2]); (try rw [p3]); (try rw [p4]); (try rw [r1]); (try rw [r2]); (try rw [r3]); (try rw [r4]); (try rw [r5]); (try rw [r6]); (try rw [q3]); (try rw [q4]); (try rw [hp]); (try rw [hq]); go_big_quiet_on)))
            refine wpQuiet_nil ?_
            rintro _ ⟨tq, rfl⟩))
      go_ret
      exact ⟨ret_bool (by rw [E.out]; try rfl), (by ((try simp only [ext_drew]); (try simp only [ext_ext]); repeat (first | exact Ext.refl _ | with_reducible apply Ext.add | with_reducible apply Ext.dr | apply Ext.alloc | apply Ext.ext | apply Ext.drew | refine Ext.trans ?_ (by assumption))))⟩
end Go.Proofs.Ytdogknbkcididaa
