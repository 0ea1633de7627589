/- The table of cells: who has a cell; whether a table is ok. -/
import Derived.Test.YtnfodkhfoegnaaaTArb
import Derived.Test.YtnfodkhfoegnaaaAll
namespace Go.Proofs.Ytnfodkhfoegnaaa
open Go.RowKit

def arbGet (xs : List Int) (k : Int) : Int := if inB k 0 ((xs.length : Int) - 1) then (xs[k.toNat]?).getD 0 else -1
theorem arbGet_out {xs : List Int} {k : Int} (h : ¬ (0 ≤ k ∧ k < xs.length)) : arbGet xs k = -1 := by
  rw [arbGet, if_neg]; intro h2; exact h (by have := inB_iff.1 h2; omega)
theorem arbGet_in {xs : List Int} {j : Nat} {x : Int} (h : xs[j]? = some x) : arbGet xs j = x := by
  have := (List.getElem?_eq_some_iff.1 h).1
  rw [arbGet, if_pos (inB_iff.2 (by omega))]; simp [h]

theorem iArbServer_c (xs0 : List Int) (a0 a1 : Option Addr) (n0 c0 n1 c1 : Nat) (k : Int) (w : World) (h1 : Re w (.sl .int) [.slice a0 n0 c0] (.l (xs0.map Dat.i))) (b0 : n0 ≤ 1048576) :
    Calls Try.prog 87 #[.agg #[.slice a0 n0 c0, .slice a1 n1 c1], .int .i64 k] w fun e w' => e = .returned (.int .i64 (arbGet xs0 k)) ∧ Ext w w' := by
  have H1 := hid h1
  clear h1
  by_cases hk : 0 ≤ k ∧ k < (n0 : Int)
  · obtain ⟨k1, k2⟩ := hk
    obtain ⟨j, rfl⟩ : ∃ j : Nat, k = j := ⟨k.toNat, by omega⟩
    have hj : j < n0 := by omega
    obtain ⟨x, b, o, hx, rfl, hb, f0⟩ := at_Int H1.out hj
    have hb2 : b ≤ w.heap.size := Nat.le_of_lt hb
    have E := hid (arbGet_in hx)
    have I := inB_iff.2 (show (0 : Int) ≤ j ∧ (j : Int) ≤ (n0 : Int) - 1 by omega)
    clear hx
    go_enter Try.func87, Try.ntmps87
    try go_wp2_with (first
        | (go_at_call 42; refine (in_c _ _ _ _).mono ?_; rintro e w' ⟨rfl, rfl⟩)
        | (
          with_reducible refine wp_region_mix (by kernel_rfl) (by decide +kernel) ?_
          repeat (first
            | (refine mix_pure rfl ?_; (first | go_big_quiet_skip | (go_big_quiet_want; go_big_quiet_op; go_big_quiet_on)); refine wpQuiet_nil ?_)
            | (refine mix_skip (by rfl) ?_; (try simp only [Act.put, List.setIfInBounds_toArray, List.set_cons_zero, List.set_cons_succ]))
            | (refine mix_mk rfl (by rfl) (fun K hK => ?_); (first | (go_simp; first | (go_at_call 42; refine (in_c _ _ _ _).mono ?_; rintro e w' ⟨rfl, rfl⟩) | skip)); (show K _ _); refine hK _ _ (show Ext _ _ from (by ((try simp only [ext_drew]); (try simp only [ext_ext]); repeat (first | exact Ext.refl _ | with_reducible apply Ext.add | with_reducible apply Ext.dr | apply Ext.alloc | apply Ext.ext | apply Ext.drew | refine Ext.trans ?_ (by assumption))))) ?_; clear hK K; (try simp only [Act.put, List.setIfInBounds_toArray, List.set_cons_zero, List.set_cons_succ])))
          refine mix_nil ?_)
        | (
          with_reducible refine wp_region_ext (by kernel_rfl) (by kernel_rfl) ?_
          repeat (first | go_big_quiet_skip | (go_big_quiet_want; go_big_quiet_op; first | go_big_quiet_on | (apply Exists.intro; refine ⟨fun _ => ?_, ?_⟩; ((first | (go_at_call 42; first | exact quiet_same (in_c _ _ _ _) | exact quiet_same2 (in_c _ _ _ _)))); (try rw [h1]); (try rw [h2]); (try rw [h3]); (try rw [h4]); (try rw [p1]); (try rw [p2]); (try rw [p3]); (try rw [p4]); (try rw [r1]); (try rw [r2]); (try rw [r3]); (try rw [r4]); (try rw [r5]); (try rw [r6]); (try rw [q3]); (try rw [q4]); (try rw [hp]); (try rw [hq]); go_big_quiet_on)))
          refine wpQuiet_nil ?_
          rintro _ ⟨tq, rfl⟩))
    go_ret
    exact ⟨ret_int E.out.symm, (by ((try simp only [ext_drew]); (try simp only [ext_ext]); repeat (first | exact Ext.refl _ | with_reducible apply Ext.add | with_reducible apply Ext.dr | apply Ext.alloc | apply Ext.ext | apply Ext.drew | refine Ext.trans ?_ (by assumption))))⟩
  · have E := hid (show arbGet xs0 k = -1 from arbGet_out (by rw [← H1.out.len]; exact hk))
    have I : inB k 0 ((n0 : Int) - 1) = false := by rw [inB_not]; omega
    by_cases hk0 : k < 0
    all_goals
      go_enter Try.func87, Try.ntmps87
      try go_wp2_with (first
          | (go_at_call 42; refine (in_c _ _ _ _).mono ?_; rintro e w' ⟨rfl, rfl⟩)
          | (
            with_reducible refine wp_region_mix (by kernel_rfl) (by decide +kernel) ?_
            repeat (first
              | (refine mix_pure rfl ?_; (first | go_big_quiet_skip | (go_big_quiet_want; go_big_quiet_op; go_big_quiet_on)); refine wpQuiet_nil ?_)
              | (refine mix_skip (by rfl) ?_; (try simp only [Act.put, List.setIfInBounds_toArray, List.set_cons_zero, List.set_cons_succ]))
              | (refine mix_mk rfl (by rfl) (fun K hK => ?_); (first | (go_simp; first | (go_at_call 42; refine (in_c _ _ _ _).mono ?_; rintro e w' ⟨rfl, rfl⟩) | skip)); (show K _ _); refine hK _ _ (show Ext _ _ from (by ((try simp only [ext_drew]); (try simp only [ext_ext]); repeat (first | exact Ext.refl _ | with_reducible apply Ext.add | with_reducible apply Ext.dr | apply Ext.alloc | apply Ext.ext | apply Ext.drew | refine Ext.trans ?_ (by assumption))))) ?_; clear hK K; (try simp only [Act.put, List.setIfInBounds_toArray, List.set_cons_zero, List.set_cons_succ])))
            refine mix_nil ?_)
          | (
            with_reducible refine wp_region_ext (by kernel_rfl) (by kernel_rfl) ?_
            repeat (first | go_big_quiet_skip | (go_big_quiet_want; go_big_quiet_op; first | go_big_quiet_on | (apply Exists.intro; refine ⟨fun _ => ?_, ?_⟩; ((first | (go_at_call 42; first | exact quiet_same (in_c _ _ _ _) | exact quiet_same2 (in_c _ _ _ _)))); (try rw [h1]); (try rw [h2]); (try rw [h3]); (try rw [h4]); (try rw [p1]); (try rw [p2]); (try rw [p3]); (try rw [p4]); (try rw [r1]); (try rw [r2]); (try rw [r3]); (try rw [r4]); (try rw [r5]); (try rw [r6]); (try rw [q3]); (try rw [q4]); (try rw [hp]); (try rw [hq]); go_big_quiet_on)))
            refine wpQuiet_nil ?_
            rintro _ ⟨tq, rfl⟩))
      go_ret
      exact ⟨ret_int E.out.symm, (by ((try simp only [ext_drew]); (try simp only [ext_ext]); repeat (first | exact Ext.refl _ | with_reducible apply Ext.add | with_reducible apply Ext.dr | apply Ext.alloc | apply Ext.ext | apply Ext.drew | refine Ext.trans ?_ (by assumption))))⟩

theorem sArbServer_c (xs0 : List Int) (a0 a1 : Option Addr) (n0 c0 n1 c1 : Nat) (k : Int) (w : World) (h1 : Re w (.sl .int) [.slice a0 n0 c0] (.l (xs0.map Dat.i))) :
    Calls Try.prog 53 #[.agg #[.slice a0 n0 c0, .slice a1 n1 c1], .int .i64 k] w fun e w' => e = .returned (.int .i64 (arbGet xs0 k)) ∧ Ext w w' := by
  have H1 := hid h1
  clear h1
  by_cases hk : 0 ≤ k ∧ k < (n0 : Int)
  · obtain ⟨k1, k2⟩ := hk
    obtain ⟨j, rfl⟩ : ∃ j : Nat, k = j := ⟨k.toNat, by omega⟩
    have hj : j < n0 := by omega
    obtain ⟨x, b, o, hx, rfl, hb, f0⟩ := at_Int H1.out hj
    have hb2 : b ≤ w.heap.size := Nat.le_of_lt hb
    have E := hid (arbGet_in hx)
    have I := inB_iff.2 (show (0 : Int) ≤ j ∧ (j : Int) ≤ (n0 : Int) - 1 by omega)
    clear hx
    go_enter Try.func53, Try.ntmps53
    try go_wp2_with (first
        | (go_at_call 33; refine (l1In_c _ _ _ _).mono ?_; rintro e w' ⟨rfl, rfl⟩)
        | (
          with_reducible refine wp_region_mix (by kernel_rfl) (by decide +kernel) ?_
          repeat (first
            | (refine mix_pure rfl ?_; (first | go_big_quiet_skip | (go_big_quiet_want; go_big_quiet_op; go_big_quiet_on)); refine wpQuiet_nil ?_)
            | (refine mix_skip (by rfl) ?_; (try simp only [Act.put, List.setIfInBounds_toArray, List.set_cons_zero, List.set_cons_succ]))
            | (refine mix_mk rfl (by rfl) (fun K hK => ?_); (first | (go_simp; first | (go_at_call 33; refine (l1In_c _ _ _ _).mono ?_; rintro e w' ⟨rfl, rfl⟩) | skip)); (show K _ _); refine hK _ _ (show Ext _ _ from (by ((try simp only [ext_drew]); (try simp only [ext_ext]); repeat (first | exact Ext.refl _ | with_reducible apply Ext.add | with_reducible apply Ext.dr | apply Ext.alloc | apply Ext.ext | apply Ext.drew | refine Ext.trans ?_ (by assumption))))) ?_; clear hK K; (try simp only [Act.put, List.setIfInBounds_toArray, List.set_cons_zero, List.set_cons_succ])))
          refine mix_nil ?_)
        | (
          with_reducible refine wp_region_ext (by kernel_rfl) (by kernel_rfl) ?_
          repeat (first | go_big_quiet_skip | (go_big_quiet_want; go_big_quiet_op; first | go_big_quiet_on | (apply Exists.intro; refine ⟨fun _ => ?_, ?_⟩; ((first | (go_at_call 33; first | exact quiet_same (l1In_c _ _ _ _) | exact quiet_same2 (l1In_c _ _ _ _)))); (try rw [h1]); (try rw [h2]); (try rw [h3]); (try rw [h4]); (try rw [p1]); (try rw [p2]); (try rw [p3]); (try rw [p4]); (try rw [r1]); (try rw [r2]); (try rw [r3]); (try rw [r4]); (try rw [r5]); (try rw [r6]); (try rw [q3]); (try rw [q4]); (try rw [hp]); (try rw [hq]); go_big_quiet_on)))
          refine wpQuiet_nil ?_
          rintro _ ⟨tq, rfl⟩))
    go_ret
    exact ⟨ret_int E.out.symm, (by ((try simp only [ext_drew]); (try simp only [ext_ext]); repeat (first | exact Ext.refl _ | with_reducible apply Ext.add | with_reducible apply Ext.dr | apply Ext.alloc | apply Ext.ext | apply Ext.drew | refine Ext.trans ?_ (by assumption))))⟩
  · have E := hid (show arbGet xs0 k = -1 from arbGet_out (by rw [← H1.out.len]; exact hk))
    have I : inB k 0 ((n0 : Int) - 1) = false := by rw [inB_not]; omega
    by_cases hk0 : k < 0
    all_goals
      go_enter Try.func53, Try.ntmps53
      try go_wp2_with (first
          | (go_at_call 33; refine (l1In_c _ _ _ _).mono ?_; rintro e w' ⟨rfl, rfl⟩)
          | (
            with_reducible refine wp_region_mix (by kernel_rfl) (by decide +kernel) ?_
            repeat (first
              | (refine mix_pure rfl ?_; (first | go_big_quiet_skip | (go_big_quiet_want; go_big_quiet_op; go_big_quiet_on)); refine wpQuiet_nil ?_)
              | (refine mix_skip (by rfl) ?_; (try simp only [Act.put, List.setIfInBounds_toArray, List.set_cons_zero, List.set_cons_succ]))
              | (refine mix_mk rfl (by rfl) (fun K hK => ?_); (first | (go_simp; first | (go_at_call 33; refine (l1In_c _ _ _ _).mono ?_; rintro e w' ⟨rfl, rfl⟩) | skip)); (show K _ _); refine hK _ _ (show Ext _ _ from (by ((try simp only [ext_drew]); (try simp only [ext_ext]); repeat (first | exact Ext.refl _ | with_reducible apply Ext.add | with_reducible apply Ext.dr | apply Ext.alloc | apply Ext.ext | apply Ext.drew | refine Ext.trans ?_ (by assumption))))) ?_; clear hK K; (try simp only [Act.put, List.setIfInBounds_toArray, List.set_cons_zero, List.set_cons_succ])))
            refine mix_nil ?_)
          | (
            with_reducible refine wp_region_ext (by kernel_rfl) (by kernel_rfl) ?_
            repeat (first | go_big_quiet_skip | (go_big_quiet_want; go_big_quiet_op; first | go_big_quiet_on | (apply Exists.intro; refine ⟨fun _ => ?_, ?_⟩; ((first | (go_at_call 33; first | exact quiet_same (l1In_c _ _ _ _) | exact quiet_same2 (l1In_c _ _ _ _)))); (try rw [h1]); (try rw [h2]); (try rw [h3]); (try rw [h4]); (try rw [p1]); (try rw [p2]); (try rw [p3]); (try rw [p4]); (try rw [r1]); (try rw [r2]); (try rw [r3]); (try rw [r4]); (try rw [r5]); (try rw [r6]); (try rw [q3]); (try rw [q4]); (try rw [hp]); (try rw [hq]); go_big_quiet_on)))
            refine wpQuiet_nil ?_
            rintro _ ⟨tq, rfl⟩))
      go_ret
      exact ⟨ret_int E.out.symm, (by ((try simp only [ext_drew]); (try simp only [ext_ext]); repeat (first | exact Ext.refl _ | with_reducible apply Ext.add | with_reducible apply Ext.dr | apply Ext.alloc | apply Ext.ext | apply Ext.drew | refine Ext.trans ?_ (by assumption))))⟩

def arbRow (s : Int) (_ : Nat) (p : Int × Int) : Bool := inB p.1 (-1) (s - 1) && inB p.2 0 900 && ((p.2 == 0) == (p.1 == -1))
def arbOk (m : Mp) (xs0 xs1 : List Int) (s : Int) : Bool := plcOk m && inB s 1 3 && decide ((xs0.length : Int) = m.c) && decide ((xs1.length : Int) = m.c) && allI (arbRow s) 0 (xs0.zip xs1)

set_option maxRecDepth 100000 in
set_option maxHeartbeats 2000000 in
theorem iArbOk_c (m : Mp) (xs0 xs1 : List Int) (a0 a1 : Option Addr) (n0 c0 n1 c1 : Nat) (s : Int) (w : World) (h0 : Re w (.sl .int) [.slice a0 n0 c0] (.l (xs0.map Dat.i))) (h1 : Re w (.sl .int) [.slice a1 n1 c1] (.l (xs1.map Dat.i))) (b0 : n0 ≤ 1048576) :
    Calls Try.prog 57 #[.agg #[.int .i64 m.c, .int .i64 m.w], .agg #[.slice a0 n0 c0, .slice a1 n1 c1], .int .i64 s] w fun e w' => e = .returned (.bool (arbOk m xs0 xs1 s)) ∧ Ext w w' := by
  have H0 := hid h0
  have H1 := hid h1
  have L0 := hid h0.len
  have L1 := hid h1.len
  clear h0 h1
  cases p1 : plcOk m with
  | false =>
    have E := hid (show arbOk m xs0 xs1 s = false by simp [arbOk, p1])
    go_enter Try.func57, Try.ntmps57
    try go_wp2_with (first
        | (go_at_call 41; refine (iPlcOk_c _ _).mono ?_; rintro e w' ⟨rfl, t, rfl⟩) | (go_at_call 42; refine (in_c _ _ _ _).mono ?_; rintro e w' ⟨rfl, rfl⟩)
        | (
          with_reducible refine wp_region_mix (by kernel_rfl) (by decide +kernel) ?_
          repeat (first
            | (refine mix_pure rfl ?_; (first | go_big_quiet_skip | (go_big_quiet_want; go_big_quiet_op; go_big_quiet_on)); refine wpQuiet_nil ?_)
            | (refine mix_skip (by rfl) ?_; (try simp only [Act.put, List.setIfInBounds_toArray, List.set_cons_zero, List.set_cons_succ]))
            | (refine mix_mk rfl (by rfl) (fun K hK => ?_); (first | (go_simp; first | (go_at_call 41; refine (iPlcOk_c _ _).mono ?_; rintro e w' ⟨rfl, t, rfl⟩) | (go_at_call 42; refine (in_c _ _ _ _).mono ?_; rintro e w' ⟨rfl, rfl⟩) | skip)); (show K _ _); refine hK _ _ (show Ext _ _ from (by ((try simp only [ext_drew]); (try simp only [ext_ext]); repeat (first | exact Ext.refl _ | with_reducible apply Ext.add | with_reducible apply Ext.dr | apply Ext.alloc | apply Ext.ext | apply Ext.drew | refine Ext.trans ?_ (by assumption))))) ?_; clear hK K; (try simp only [Act.put, List.setIfInBounds_toArray, List.set_cons_zero, List.set_cons_succ])))
          refine mix_nil ?_)
        | (
          with_reducible refine wp_region_ext (by kernel_rfl) (by kernel_rfl) ?_
          repeat (first | go_big_quiet_skip | (go_big_quiet_want; go_big_quiet_op; first | go_big_quiet_on | (apply Exists.intro; refine ⟨fun _ => ?_, ?_⟩; ((first | (go_at_call 41; first | exact quiet_call (iPlcOk_c _ _) | exact quiet_call2 (iPlcOk_c _ _)) | (go_at_call 42; first | exact quiet_same (in_c _ _ _ _) | exact quiet_same2 (in_c _ _ _ _)))); (try rw [h1]); (try rw [h2]); (try rw [h3]); (try rw [h4]); (try rw [p1]); (try rw [p2]); (try rw [p3]); (try rw [p4]); (try rw [r1]); (try rw [r2]); (try rw [r3]); (try rw [r4]); (try rw [r5]); (try rw [r6]); (try rw [q3]); (try rw [q4]); (try rw [hp]); (try rw [hq]); go_big_quiet_on)))
          refine wpQuiet_nil ?_
          rintro _ ⟨tq, rfl⟩))
    go_ret
    exact ⟨ret_bool (by rw [E.out]), (by ((try simp only [ext_drew]); (try simp only [ext_ext]); repeat (first | exact Ext.refl _ | with_reducible apply Ext.add | with_reducible apply Ext.dr | apply Ext.alloc | apply Ext.ext | apply Ext.drew | refine Ext.trans ?_ (by assumption))))⟩
  | true =>
    cases p2 : inB s 1 3 with
    | false =>
      have E := hid (show arbOk m xs0 xs1 s = false by simp [arbOk, p2])
      go_enter Try.func57, Try.ntmps57
      try go_wp2_with (first
          | (go_at_call 41; refine (iPlcOk_c _ _).mono ?_; rintro e w' ⟨rfl, t, rfl⟩) | (go_at_call 42; refine (in_c _ _ _ _).mono ?_; rintro e w' ⟨rfl, rfl⟩)
          | (
            with_reducible refine wp_region_mix (by kernel_rfl) (by decide +kernel) ?_
            repeat (first
              | (refine mix_pure rfl ?_; (first | go_big_quiet_skip | (go_big_quiet_want; go_big_quiet_op; go_big_quiet_on)); refine wpQuiet_nil ?_)
              | (refine mix_skip (by rfl) ?_; (try simp only [Act.put, List.setIfInBounds_toArray, List.set_cons_zero, List.set_cons_succ]))
              | (refine mix_mk rfl (by rfl) (fun K hK => ?_); (first | (go_simp; first | (go_at_call 41; refine (iPlcOk_c _ _).mono ?_; rintro e w' ⟨rfl, t, rfl⟩) | (go_at_call 42; refine (in_c _ _ _ _).mono ?_; rintro e w' ⟨rfl, rfl⟩) | skip)); (show K _ _); refine hK _ _ (show Ext _ _ from (by ((try simp only [ext_drew]); (try simp only [ext_ext]); repeat (first | exact Ext.refl _ | with_reducible apply Ext.add | with_reducible apply Ext.dr | apply Ext.alloc | apply Ext.ext | apply Ext.drew | refine Ext.trans ?_ (by assumption))))) ?_; clear hK K; (try simp only [Act.put, List.setIfInBounds_toArray, List.set_cons_zero, List.set_cons_succ])))
            refine mix_nil ?_)
          | (
            with_reducible refine wp_region_ext (by kernel_rfl) (by kernel_rfl) ?_
            repeat (first | go_big_quiet_skip | (go_big_quiet_want; go_big_quiet_op; first | go_big_quiet_on | (apply Exists.intro; refine ⟨fun _ => ?_, ?_⟩; ((first | (go_at_call 41; first | exact quiet_call (iPlcOk_c _ _) | exact quiet_call2 (iPlcOk_c _ _)) | (go_at_call 42; first | exact quiet_same (in_c _ _ _ _) | exact quiet_same2 (in_c _ _ _ _)))); (try rw [h1]); (try rw [h2]); (try rw [h3]); (try rw [h4]); (try rw [p1]); (try rw [p2]); (try rw [p3]); (try rw [p4]); (try rw [r1]); (try rw [r2]); (try rw [r3]); (try rw [r4]); (try rw [r5]); (try rw [r6]); (try rw [q3]); (try rw [q4]); (try rw [hp]); (try rw [hq]); go_big_quiet_on)))
            refine wpQuiet_nil ?_
            rintro _ ⟨tq, rfl⟩))
      go_ret
      exact ⟨ret_bool (by rw [E.out]), (by ((try simp only [ext_drew]); (try simp only [ext_ext]); repeat (first | exact Ext.refl _ | with_reducible apply Ext.add | with_reducible apply Ext.dr | apply Ext.alloc | apply Ext.ext | apply Ext.drew | refine Ext.trans ?_ (by assumption))))⟩
    | true =>
      obtain ⟨s1, s2⟩ := inB_iff.1 p2
      by_cases p3 : (n0 : Int) = m.c
      · have q3 := bne_f p3
        have P3 := hid p3
        clear p3
        by_cases p4 : (n1 : Int) = m.c
        · have q4 := bne_f p4
          have P4 := hid p4
          clear p4
          go_enter Try.func57, Try.ntmps57
          try go_wp2_with (first
              | (go_at_call 41; refine (iPlcOk_c _ _).mono ?_; rintro e w' ⟨rfl, t, rfl⟩) | (go_at_call 42; refine (in_c _ _ _ _).mono ?_; rintro e w' ⟨rfl, rfl⟩)
              | (
                with_reducible refine wp_region_mix (by kernel_rfl) (by decide +kernel) ?_
                repeat (first
                  | (refine mix_pure rfl ?_; (first | go_big_quiet_skip | (go_big_quiet_want; go_big_quiet_op; go_big_quiet_on)); refine wpQuiet_nil ?_)
                  | (refine mix_skip (by rfl) ?_; (try simp only [Act.put, List.setIfInBounds_toArray, List.set_cons_zero, List.set_cons_succ]))
                  | (refine mix_mk rfl (by rfl) (fun K hK => ?_); (first | (go_simp; first | (go_at_call 41; refine (iPlcOk_c _ _).mono ?_; rintro e w' ⟨rfl, t, rfl⟩) | (go_at_call 42; refine (in_c _ _ _ _).mono ?_; rintro e w' ⟨rfl, rfl⟩) | skip)); (show K _ _); refine hK _ _ (show Ext _ _ from (by ((try simp only [ext_drew]); (try simp only [ext_ext]); repeat (first | exact Ext.refl _ | with_reducible apply Ext.add | with_reducible apply Ext.dr | apply Ext.alloc | apply Ext.ext | apply Ext.drew | refine Ext.trans ?_ (by assumption))))) ?_; clear hK K; (try simp only [Act.put, List.setIfInBounds_toArray, List.set_cons_zero, List.set_cons_succ])))
                refine mix_nil ?_)
              | (
                with_reducible refine wp_region_ext (by kernel_rfl) (by kernel_rfl) ?_
                repeat (first | go_big_quiet_skip | (go_big_quiet_want; go_big_quiet_op; first | go_big_quiet_on | (apply Exists.intro; refine ⟨fun _ => ?_, ?_⟩; ((first | (go_at_call 41; first | exact quiet_call (iPlcOk_c _ _) | exact quiet_call2 (iPlcOk_c _ _)) | (go_at_call 42; first | exact quiet_same (in_c _ _ _ _) | exact quiet_same2 (in_c _ _ _ _)))); (try rw [h1]); (try rw [h2]); (try rw [h3]); (try rw [h4]); (try rw [p1]); (try rw [p2]); (try rw [p3]); (try rw [p4]); (try rw [r1]); (try rw [r2]); (try rw [r3]); (try rw [r4]); (try rw [r5]); (try rw [r6]); (try rw [q3]); (try rw [q4]); (try rw [hp]); (try rw [hq]); go_big_quiet_on)))
                refine wpQuiet_nil ?_
                rintro _ ⟨tq, rfl⟩))
          go_loopw [36] (fun i wr => ∃ k : Nat, k ≤ n0 ∧ i = .int .i64 k ∧ allI (arbRow s) 0 ((xs0.zip xs1).take k) = true ∧ Ext ((w.alloc (Obj.cells #[.int .i64 m.c, .int .i64 m.w] 35)).alloc (Obj.cells #[.slice a0 n0 c0, .slice a1 n1 c1] 61)) wr) (fun i _ => n0 - (intOf i).toNat)
          case atStart => exact ⟨0, Nat.zero_le _, rfl, rfl, (by ((try simp only [ext_drew]); (try simp only [ext_ext]); repeat (first | exact Ext.refl _ | with_reducible apply Ext.add | with_reducible apply Ext.dr | apply Ext.alloc | apply Ext.ext | apply Ext.drew | refine Ext.trans ?_ (by assumption))))⟩
          case round =>
            obtain ⟨k, hk, rfl, hal, t', rfl⟩ := hrel
            have HA := hid hal
            clear hal
            by_cases hlt : k < n0
            · have hltm : (k : Int) < m.c := by have := P3.out; omega
              have hlt1 : k < n1 := by have := P3.out; have := P4.out; omega
              obtain ⟨x, b, o, hxk, rfl, hb, f0⟩ := at_Int H0.out hlt
              obtain ⟨y, b', o', hyk, rfl, hb', g0⟩ := at_Int H1.out hlt1
              have HK := hid (show (xs0.zip xs1)[k]? = some (x, y) from List.getElem?_zip_eq_some.2 ⟨hxk, hyk⟩)
              clear hxk hyk
              have hb1 : b ≤ w.heap.size := Nat.le_of_lt hb
              have hb1' : b' ≤ w.heap.size := Nat.le_of_lt hb'
              cases r1 : inB x (-1) (s - 1) with
              | false =>
                have E := hid (show arbOk m xs0 xs1 s = false by have := allI_fail (p := arbRow s) HK.out (by simp [arbRow, r1]); simp [arbOk, this])
                try go_wp2_with (first
                    | (go_at_call 42; refine (in_c _ _ _ _).mono ?_; rintro e w' ⟨rfl, rfl⟩)
                    | (
                      with_reducible refine wp_region_mix (by kernel_rfl) (by decide +kernel) ?_
                      repeat (first
                        | (refine mix_pure rfl ?_; (first | go_big_quiet_skip | (go_big_quiet_want; go_big_quiet_op; go_big_quiet_on)); refine wpQuiet_nil ?_)
                        | (refine mix_skip (by rfl) ?_; (try simp only [Act.put, List.setIfInBounds_toArray, List.set_cons_zero, List.set_cons_succ]))
                        | (refine mix_mk rfl (by rfl) (fun K hK => ?_); (first | (go_simp; first | (go_at_call 42; refine (in_c _ _ _ _).mono ?_; rintro e w' ⟨rfl, rfl⟩) | skip)); (show K _ _); refine hK _ _ (show Ext _ _ from (by ((try simp only [ext_drew]); (try simp only [ext_ext]); repeat (first | exact Ext.refl _ | with_reducible apply Ext.add | with_reducible apply Ext.dr | apply Ext.alloc | apply Ext.ext | apply Ext.drew | refine Ext.trans ?_ (by assumption))))) ?_; clear hK K; (try simp only [Act.put, List.setIfInBounds_toArray, List.set_cons_zero, List.set_cons_succ])))
                      refine mix_nil ?_)
                    | (
                      with_reducible refine wp_region_ext (by kernel_rfl) (by kernel_rfl) ?_
                      repeat (first | go_big_quiet_skip | (go_big_quiet_want; go_big_quiet_op; first | go_big_quiet_on | (apply Exists.intro; refine ⟨fun _ => ?_, ?_⟩; ((first | (go_at_call 42; first | exact quiet_same (in_c _ _ _ _) | exact quiet_same2 (in_c _ _ _ _)))); (try rw [h1]); (try rw [h2]); (try rw [h3]); (try rw [h4]); (try rw [p1]); (try rw [p2]); (try rw [p3]); (try rw [p4]); (try rw [r1]); (try rw [r2]); (try rw [r3]); (try rw [r4]); (try rw [r5]); (try rw [r6]); (try rw [q3]); (try rw [q4]); (try rw [hp]); (try rw [hq]); go_big_quiet_on)))
                      refine wpQuiet_nil ?_
                      rintro _ ⟨tq, rfl⟩))
                go_ret
                exact ⟨ret_bool (by rw [E.out]), (by ((try simp only [ext_drew]); (try simp only [ext_ext]); repeat (first | exact Ext.refl _ | with_reducible apply Ext.add | with_reducible apply Ext.dr | apply Ext.alloc | apply Ext.ext | apply Ext.drew | refine Ext.trans ?_ (by assumption))))⟩
              | true =>
                cases r2 : inB y 0 900 with
                | false =>
                  have E := hid (show arbOk m xs0 xs1 s = false by have := allI_fail (p := arbRow s) HK.out (by simp [arbRow, r2]); simp [arbOk, this])
                  try go_wp2_with (first
                      | (go_at_call 42; refine (in_c _ _ _ _).mono ?_; rintro e w' ⟨rfl, rfl⟩)
                      | (
                        with_reducible refine wp_region_mix (by kernel_rfl) (by decide +kernel) ?_
                        repeat (first
                          | (refine mix_pure rfl ?_; (first | go_big_quiet_skip | (go_big_quiet_want; go_big_quiet_op; go_big_quiet_on)); refine wpQuiet_nil ?_)
                          | (refine mix_skip (by rfl) ?_; (try simp only [Act.put, List.setIfInBounds_toArray, List.set_cons_zero, List.set_cons_succ]))
                          | (refine mix_mk rfl (by rfl) (fun K hK => ?_); (first | (go_simp; first | (go_at_call 42; refine (in_c _ _ _ _).mono ?_; rintro e w' ⟨rfl, rfl⟩) | skip)); (show K _ _); refine hK _ _ (show Ext _ _ from (by ((try simp only [ext_drew]); (try simp only [ext_ext]); repeat (first | exact Ext.refl _ | with_reducible apply Ext.add | with_reducible apply Ext.dr | apply Ext.alloc | apply Ext.ext | apply Ext.drew | refine Ext.trans ?_ (by assumption))))) ?_; clear hK K; (try simp only [Act.put, List.setIfInBounds_toArray, List.set_cons_zero, List.set_cons_succ])))
                        refine mix_nil ?_)
                      | (
                        with_reducible refine wp_region_ext (by kernel_rfl) (by kernel_rfl) ?_
                        repeat (first | go_big_quiet_skip | (go_big_quiet_want; go_big_quiet_op; first | go_big_quiet_on | (apply Exists.intro; refine ⟨fun _ => ?_, ?_⟩; ((first | (go_at_call 42; first | exact quiet_same (in_c _ _ _ _) | exact quiet_same2 (in_c _ _ _ _)))); (try rw [h1]); (try rw [h2]); (try rw [h3]); (try rw [h4]); (try rw [p1]); (try rw [p2]); (try rw [p3]); (try rw [p4]); (try rw [r1]); (try rw [r2]); (try rw [r3]); (try rw [r4]); (try rw [r5]); (try rw [r6]); (try rw [q3]); (try rw [q4]); (try rw [hp]); (try rw [hq]); go_big_quiet_on)))
                        refine wpQuiet_nil ?_
                        rintro _ ⟨tq, rfl⟩))
                  go_ret
                  exact ⟨ret_bool (by rw [E.out]), (by ((try simp only [ext_drew]); (try simp only [ext_ext]); repeat (first | exact Ext.refl _ | with_reducible apply Ext.add | with_reducible apply Ext.dr | apply Ext.alloc | apply Ext.ext | apply Ext.drew | refine Ext.trans ?_ (by assumption))))⟩
                | true =>
                  cases r3 : (x == -1) <;> cases r4 : (y == 0)
                  · have HB := hid (allI_step (p := arbRow s) HK.out HA.out (by simp [arbRow, r1, r2, r3, r4]))
                    try go_wp2_with (first
                        | (go_at_call 42; refine (in_c _ _ _ _).mono ?_; rintro e w' ⟨rfl, rfl⟩)
                        | (
                          with_reducible refine wp_region_mix (by kernel_rfl) (by decide +kernel) ?_
                          repeat (first
                            | (refine mix_pure rfl ?_; (first | go_big_quiet_skip | (go_big_quiet_want; go_big_quiet_op; go_big_quiet_on)); refine wpQuiet_nil ?_)
                            | (refine mix_skip (by rfl) ?_; (try simp only [Act.put, List.setIfInBounds_toArray, List.set_cons_zero, List.set_cons_succ]))
                            | (refine mix_mk rfl (by rfl) (fun K hK => ?_); (first | (go_simp; first | (go_at_call 42; refine (in_c _ _ _ _).mono ?_; rintro e w' ⟨rfl, rfl⟩) | skip)); (show K _ _); refine hK _ _ (show Ext _ _ from (by ((try simp only [ext_drew]); (try simp only [ext_ext]); repeat (first | exact Ext.refl _ | with_reducible apply Ext.add | with_reducible apply Ext.dr | apply Ext.alloc | apply Ext.ext | apply Ext.drew | refine Ext.trans ?_ (by assumption))))) ?_; clear hK K; (try simp only [Act.put, List.setIfInBounds_toArray, List.set_cons_zero, List.set_cons_succ])))
                          refine mix_nil ?_)
                        | (
                          with_reducible refine wp_region_ext (by kernel_rfl) (by kernel_rfl) ?_
                          repeat (first | go_big_quiet_skip | (go_big_quiet_want; go_big_quiet_op; first | go_big_quiet_on | (apply Exists.intro; refine ⟨fun _ => ?_, ?_⟩; ((first | (go_at_call 42; first | exact quiet_same (in_c _ _ _ _) | exact quiet_same2 (in_c _ _ _ _)))); (try rw [h1]); (try rw [h2]); (try rw [h3]); (try rw [h4]); (try rw [p1]); (try rw [p2]); (try rw [p3]); (try rw [p4]); (try rw [r1]); (try rw [r2]); (try rw [r3]); (try rw [r4]); (try rw [r5]); (try rw [r6]); (try rw [q3]); (try rw [q4]); (try rw [hp]); (try rw [hq]); go_big_quiet_on)))
                          refine wpQuiet_nil ?_
                          rintro _ ⟨tq, rfl⟩))
                    go_roundw
                    case rel => exact ⟨k + 1, by omega, by go_num, HB.out, (by ((try simp only [ext_drew]); (try simp only [ext_ext]); repeat (first | exact Ext.refl _ | with_reducible apply Ext.add | with_reducible apply Ext.dr | apply Ext.alloc | apply Ext.ext | apply Ext.drew | refine Ext.trans ?_ (by assumption))))⟩
                    case measure => simp [intOf]; omega
                  · have E := hid (show arbOk m xs0 xs1 s = false by have := allI_fail (p := arbRow s) HK.out (by simp [arbRow, r3, r4]); simp [arbOk, this])
                    try go_wp2_with (first
                        | (go_at_call 42; refine (in_c _ _ _ _).mono ?_; rintro e w' ⟨rfl, rfl⟩)
                        | (
                          with_reducible refine wp_region_mix (by kernel_rfl) (by decide +kernel) ?_
                          repeat (first
                            | (refine mix_pure rfl ?_; (first | go_big_quiet_skip | (go_big_quiet_want; go_big_quiet_op; go_big_quiet_on)); refine wpQuiet_nil ?_)
                            | (refine mix_skip (by rfl) ?_; (try simp only [Act.put, List.setIfInBounds_toArray, List.set_cons_zero, List.set_cons_succ]))
                            | (refine mix_mk rfl (by rfl) (fun K hK => ?_); (first | (go_simp; first | (go_at_call 42; refine (in_c _ _ _ _).mono ?_; rintro e w' ⟨rfl, rfl⟩) | skip)); (show K _ _); refine hK _ _ (show Ext _ _ from (by ((try simp only [ext_drew]); (try simp only [ext_ext]); repeat (first | exact Ext.refl _ | with_reducible apply Ext.add | with_reducible apply Ext.dr | apply Ext.alloc | apply Ext.ext | apply Ext.drew | refine Ext.trans ?_ (by assumption))))) ?_; clear hK K; (try simp only [Act.put, List.setIfInBounds_toArray, List.set_cons_zero, List.set_cons_succ])))
                          refine mix_nil ?_)
                        | (
                          with_reducible refine wp_region_ext (by kernel_rfl) (by kernel_rfl) ?_
                          repeat (first | go_big_quiet_skip | (go_big_quiet_want; go_big_quiet_op; first | go_big_quiet_on | (apply Exists.intro; refine ⟨fun _ => ?_, ?_⟩; ((first | (go_at_call 42; first | exact quiet_same (in_c _ _ _ _) | exact quiet_same2 (in_c _ _ _ _)))); (try rw [h1]); (try rw [h2]); (try rw [h3]); (try rw [h4]); (try rw [p1]); (try rw [p2]); (try rw [p3]); (try rw [p4]); (try rw [r1]); (try rw [r2]); (try rw [r3]); (try rw [r4]); (try rw [r5]); (try rw [r6]); (try rw [q3]); (try rw [q4]); (try rw [hp]); (try rw [hq]); go_big_quiet_on)))
                          refine wpQuiet_nil ?_
                          rintro _ ⟨tq, rfl⟩))
                    go_ret
                    exact ⟨ret_bool (by rw [E.out]), (by ((try simp only [ext_drew]); (try simp only [ext_ext]); repeat (first | exact Ext.refl _ | with_reducible apply Ext.add | with_reducible apply Ext.dr | apply Ext.alloc | apply Ext.ext | apply Ext.drew | refine Ext.trans ?_ (by assumption))))⟩
                  · have E := hid (show arbOk m xs0 xs1 s = false by have := allI_fail (p := arbRow s) HK.out (by simp [arbRow, r3, r4]); simp [arbOk, this])
                    try go_wp2_with (first
                        | (go_at_call 42; refine (in_c _ _ _ _).mono ?_; rintro e w' ⟨rfl, rfl⟩)
                        | (
                          with_reducible refine wp_region_mix (by kernel_rfl) (by decide +kernel) ?_
                          repeat (first
                            | (refine mix_pure rfl ?_; (first | go_big_quiet_skip | (go_big_quiet_want; go_big_quiet_op; go_big_quiet_on)); refine wpQuiet_nil ?_)
                            | (refine mix_skip (by rfl) ?_; (try simp only [Act.put, List.setIfInBounds_toArray, List.set_cons_zero, List.set_cons_succ]))
                            | (refine mix_mk rfl (by rfl) (fun K hK => ?_); (first | (go_simp; first | (go_at_call 42; refine (in_c _ _ _ _).mono ?_; rintro e w' ⟨rfl, rfl⟩) | skip)); (show K _ _); refine hK _ _ (show Ext _ _ from (by ((try simp only [ext_drew]); (try simp only [ext_ext]); repeat (first | exact Ext.refl _ | with_reducible apply Ext.add | with_reducible apply Ext.dr | apply Ext.alloc | apply Ext.ext | apply Ext.drew | refine Ext.trans ?_ (by assumption))))) ?_; clear hK K; (try simp only [Act.put, List.setIfInBounds_toArray, List.set_cons_zero, List.set_cons_succ])))
                          refine mix_nil ?_)
                        | (
                          with_reducible refine wp_region_ext (by kernel_rfl) (by kernel_rfl) ?_
                          repeat (first | go_big_quiet_skip | (go_big_quiet_want; go_big_quiet_op; first | go_big_quiet_on | (apply Exists.intro; refine ⟨fun _ => ?_, ?_⟩; ((first | (go_at_call 42; first | exact quiet_same (in_c _ _ _ _) | exact quiet_same2 (in_c _ _ _ _)))); (try rw [h1]); (try rw [h2]); (try rw [h3]); (try rw [h4]); (try rw [p1]); (try rw [p2]); (try rw [p3]); (try rw [p4]); (try rw [r1]); (try rw [r2]); (try rw [r3]); (try rw [r4]); (try rw [r5]); (try rw [r6]); (try rw [q3]); (try rw [q4]); (try rw [hp]); (try rw [hq]); go_big_quiet_on)))
                          refine wpQuiet_nil ?_
                          rintro _ ⟨tq, rfl⟩))
                    go_ret
                    exact ⟨ret_bool (by rw [E.out]), (by ((try simp only [ext_drew]); (try simp only [ext_ext]); repeat (first | exact Ext.refl _ | with_reducible apply Ext.add | with_reducible apply Ext.dr | apply Ext.alloc | apply Ext.ext | apply Ext.drew | refine Ext.trans ?_ (by assumption))))⟩
                  · have HB := hid (allI_step (p := arbRow s) HK.out HA.out (by simp [arbRow, r1, r2, r3, r4]))
                    try go_wp2_with (first
                        | (go_at_call 42; refine (in_c _ _ _ _).mono ?_; rintro e w' ⟨rfl, rfl⟩)
                        | (
                          with_reducible refine wp_region_mix (by kernel_rfl) (by decide +kernel) ?_
                          repeat (first
                            | (refine mix_pure rfl ?_; (first | go_big_quiet_skip | (go_big_quiet_want; go_big_quiet_op; go_big_quiet_on)); refine wpQuiet_nil ?_)
                            | (refine mix_skip (by rfl) ?_; (try simp only [Act.put, List.setIfInBounds_toArray, List.set_cons_zero, List.set_cons_succ]))
                            | (refine mix_mk rfl (by rfl) (fun K hK => ?_); (first | (go_simp; first | (go_at_call 42; refine (in_c _ _ _ _).mono ?_; rintro e w' ⟨rfl, rfl⟩) | skip)); (show K _ _); refine hK _ _ (show Ext _ _ from (by ((try simp only [ext_drew]); (try simp only [ext_ext]); repeat (first | exact Ext.refl _ | with_reducible apply Ext.add | with_reducible apply Ext.dr | apply Ext.alloc | apply Ext.ext | apply Ext.drew | refine Ext.trans ?_ (by assumption))))) ?_; clear hK K; (try simp only [Act.put, List.setIfInBounds_toArray, List.set_cons_zero, List.set_cons_succ])))
                          refine mix_nil ?_)
                        | (
                          with_reducible refine wp_region_ext (by kernel_rfl) (by kernel_rfl) ?_
                          repeat (first | go_big_quiet_skip | (go_big_quiet_want; go_big_quiet_op; first | go_big_quiet_on | (apply Exists.intro; refine ⟨fun _ => ?_, ?_⟩; ((first | (go_at_call 42; first | exact quiet_same (in_c _ _ _ _) | exact quiet_same2 (in_c _ _ _ _)))); (try rw [h1]); (try rw [h2]); (try rw [h3]); (try rw [h4]); (try rw [p1]); (try rw [p2]); (try rw [p3]); (try rw [p4]); (try rw [r1]); (try rw [r2]); (try rw [r3]); (try rw [r4]); (try rw [r5]); (try rw [r6]); (try rw [q3]); (try rw [q4]); (try rw [hp]); (try rw [hq]); go_big_quiet_on)))
                          refine wpQuiet_nil ?_
                          rintro _ ⟨tq, rfl⟩))
                    go_roundw
                    case rel => exact ⟨k + 1, by omega, by go_num, HB.out, (by ((try simp only [ext_drew]); (try simp only [ext_ext]); repeat (first | exact Ext.refl _ | with_reducible apply Ext.add | with_reducible apply Ext.dr | apply Ext.alloc | apply Ext.ext | apply Ext.drew | refine Ext.trans ?_ (by assumption))))⟩
                    case measure => simp [intOf]; omega
            · have hltm : ¬ (k : Int) < m.c := by have := P3.out; omega
              have E := hid (show arbOk m xs0 xs1 s = true by
                have := allI_all (p := arbRow s) (xs := xs0.zip xs1) (k := k) (by rw [List.length_zip]; have := L0.out; omega) HA.out
                have l0 := L0.out; have l1 := L1.out; have q0 := P3.out; have q1 := P4.out
                simp [arbOk, this, p1, p2]; omega)
              try go_wp2_with (first
                  | fail
                  | (
                    with_reducible refine wp_region_mix (by kernel_rfl) (by decide +kernel) ?_
                    repeat (first
                      | (refine mix_pure rfl ?_; (first | go_big_quiet_skip | (go_big_quiet_want; go_big_quiet_op; go_big_quiet_on)); refine wpQuiet_nil ?_)
                      | (refine mix_skip (by rfl) ?_; (try simp only [Act.put, List.setIfInBounds_toArray, List.set_cons_zero, List.set_cons_succ]))
                      | (refine mix_mk rfl (by rfl) (fun K hK => ?_); (first | (go_simp; first | skip)); (show K _ _); refine hK _ _ (show Ext _ _ from (by ((try simp only [ext_drew]); (try simp only [ext_ext]); repeat (first | exact Ext.refl _ | with_reducible apply Ext.add | with_reducible apply Ext.dr | apply Ext.alloc | apply Ext.ext | apply Ext.drew | refine Ext.trans ?_ (by assumption))))) ?_; clear hK K; (try simp only [Act.put, List.setIfInBounds_toArray, List.set_cons_zero, List.set_cons_succ])))
                    refine mix_nil ?_)
                  | (
                    with_reducible refine wp_region_ext (by kernel_rfl) (by kernel_rfl) ?_
                    repeat (first | go_big_quiet_skip | (go_big_quiet_want; go_big_quiet_op; first | go_big_quiet_on | (apply Exists.intro; refine ⟨fun _ => ?_, ?_⟩; (fail); (try rw [h1]); (try rw [h2]); (try rw [h3]); (try rw [h4]); (try rw [p1]); (try rw [p2]); (try rw [p3]); (try rw [p4]); (try rw [r1]); (try rw [r2]); (try rw [r3]); (try rw [r4]); (try rw [r5]); (try rw [r6]); (try rw [q3]); (try rw [q4]); (try rw [hp]); (try rw [hq]); go_big_quiet_on)))
                    refine wpQuiet_nil ?_
                    rintro _ ⟨tq, rfl⟩))
              go_ret
              exact ⟨ret_bool (by rw [E.out]), (by ((try simp only [ext_drew]); (try simp only [ext_ext]); repeat (first | exact Ext.refl _ | with_reducible apply Ext.add | with_reducible apply Ext.dr | apply Ext.alloc | apply Ext.ext | apply Ext.drew | refine Ext.trans ?_ (by assumption))))⟩
        · have q4 := bne_t p4
          have E := hid (show arbOk m xs0 xs1 s = false by have := L1.out; simp [arbOk, ← this, p4])
          clear p4
          go_enter Try.func57, Try.ntmps57
          try go_wp2_with (first
              | (go_at_call 41; refine (iPlcOk_c _ _).mono ?_; rintro e w' ⟨rfl, t, rfl⟩) | (go_at_call 42; refine (in_c _ _ _ _).mono ?_; rintro e w' ⟨rfl, rfl⟩)
              | (
                with_reducible refine wp_region_mix (by kernel_rfl) (by decide +kernel) ?_
                repeat (first
                  | (refine mix_pure rfl ?_; (first | go_big_quiet_skip | (go_big_quiet_want; go_big_quiet_op; go_big_quiet_on)); refine wpQuiet_nil ?_)
                  | (refine mix_skip (by rfl) ?_; (try simp only [Act.put, List.setIfInBounds_toArray, List.set_cons_zero, List.set_cons_succ]))
                  | (refine mix_mk rfl (by rfl) (fun K hK => ?_); (first | (go_simp; first | (go_at_call 41; refine (iPlcOk_c _ _).mono ?_; rintro e w' ⟨rfl, t, rfl⟩) | (go_at_call 42; refine (in_c _ _ _ _).mono ?_; rintro e w' ⟨rfl, rfl⟩) | skip)); (show K _ _); refine hK _ _ (show Ext _ _ from (by ((try simp only [ext_drew]); (try simp only [ext_ext]); repeat (first | exact Ext.refl _ | with_reducible apply Ext.add | with_reducible apply Ext.dr | apply Ext.alloc | apply Ext.ext | apply Ext.drew | refine Ext.trans ?_ (by assumption))))) ?_; clear hK K; (try simp only [Act.put, List.setIfInBounds_toArray, List.set_cons_zero, List.set_cons_succ])))
                refine mix_nil ?_)
              | (
                with_reducible refine wp_region_ext (by kernel_rfl) (by kernel_rfl) ?_
                repeat (first | go_big_quiet_skip | (go_big_quiet_want; go_big_quiet_op; first | go_big_quiet_on | (apply Exists.intro; refine ⟨fun _ => ?_, ?_⟩; ((first | (go_at_call 41; first | exact quiet_call (iPlcOk_c _ _) | exact quiet_call2 (iPlcOk_c _ _)) | (go_at_call 42; first | exact quiet_same (in_c _ _ _ _) | exact quiet_same2 (in_c _ _ _ _)))); (try rw [h1]); (try rw [h2]); (try rw [h3]); (try rw [h4]); (try rw [p1]); (try rw [p2]); (try rw [p3]); (try rw [p4]); (try rw [r1]); (try rw [r2]); (try rw [r3]); (try rw [r4]); (try rw [r5]); (try rw [r6]); (try rw [q3]); (try rw [q4]); (try rw [hp]); (try rw [hq]); go_big_quiet_on)))
                refine wpQuiet_nil ?_
                rintro _ ⟨tq, rfl⟩))
          go_ret
          exact ⟨ret_bool (by rw [E.out]), (by ((try simp only [ext_drew]); (try simp only [ext_ext]); repeat (first | exact Ext.refl _ | with_reducible apply Ext.add | with_reducible apply Ext.dr | apply Ext.alloc | apply Ext.ext | apply Ext.drew | refine Ext.trans ?_ (by assumption))))⟩
      · have q3 := bne_t p3
        have E := hid (show arbOk m xs0 xs1 s = false by have := L0.out; simp [arbOk, ← this, p3])
        clear p3
        go_enter Try.func57, Try.ntmps57
        try go_wp2_with (first
            | (go_at_call 41; refine (iPlcOk_c _ _).mono ?_; rintro e w' ⟨rfl, t, rfl⟩) | (go_at_call 42; refine (in_c _ _ _ _).mono ?_; rintro e w' ⟨rfl, rfl⟩)
            | (
              with_reducible refine wp_region_mix (by kernel_rfl) (by decide +kernel) ?_
              repeat (first
                | (refine mix_pure rfl ?_; (first | go_big_quiet_skip | (go_big_quiet_want; go_big_quiet_op; go_big_quiet_on)); refine wpQuiet_nil ?_)
                | (refine mix_skip (by rfl) ?_; (try simp only [Act.put, List.setIfInBounds_toArray, List.set_cons_zero, List.set_cons_succ]))
                | (refine mix_mk rfl (by rfl) (fun K hK => ?_); (first | (go_simp; first | (go_at_call 41; refine (iPlcOk_c _ _).mono ?_; rintro e w' ⟨rfl, t, rfl⟩) | (go_at_call 42; refine (in_c _ _ _ _).mono ?_; rintro e w' ⟨rfl, rfl⟩) | skip)); (show K _ _); refine hK _ _ (show Ext _ _ from (by ((try simp only [ext_drew]); (try simp only [ext_ext]); repeat (first | exact Ext.refl _ | with_reducible apply Ext.add | with_reducible apply Ext.dr | apply Ext.alloc | apply Ext.ext | apply Ext.drew | refine Ext.trans ?_ (by assumption))))) ?_; clear hK K; (try simp only [Act.put, List.setIfInBounds_toArray, List.set_cons_zero, List.set_cons_succ])))
              refine mix_nil ?_)
            | (
              with_reducible refine wp_region_ext (by kernel_rfl) (by kernel_rfl) ?_
              repeat (first | go_big_quiet_skip | (go_big_quiet_want; go_big_quiet_op; first | go_big_quiet_on | (apply Exists.intro; refine ⟨fun _ => ?_, ?_⟩; ((first | (go_at_call 41; first | exact quiet_call (iPlcOk_c _ _) | exact quiet_call2 (iPlcOk_c _ _)) | (go_at_call 42; first | exact quiet_same (in_c _ _ _ _) | exact quiet_same2 (in_c _ _ _ _)))); (try rw [h1]); (try rw [h2]); (try rw [h3]); (try rw [h4]); (try rw [p1]); (try rw [p2]); (try rw [p3]); (try rw [p4]); (try rw [r1]); (try rw [r2]); (try rw [r3]); (try rw [r4]); (try rw [r5]); (try rw [r6]); (try rw [q3]); (try rw [q4]); (try rw [hp]); (try rw [hq]); go_big_quiet_on)))
              refine wpQuiet_nil ?_
              rintro _ ⟨tq, rfl⟩))
        go_ret
        exact ⟨ret_bool (by rw [E.out]), (by ((try simp only [ext_drew]); (try simp only [ext_ext]); repeat (first | exact Ext.refl _ | with_reducible apply Ext.add | with_reducible apply Ext.dr | apply Ext.alloc | apply Ext.ext | apply Ext.drew | refine Ext.trans ?_ (by assumption))))⟩

set_option maxRecDepth 100000 in
set_option maxHeartbeats 2000000 in
theorem sArbOk_c (m : Mp) (xs0 xs1 : List Int) (a0 a1 : Option Addr) (n0 c0 n1 c1 : Nat) (s : Int) (w : World) (h0 : Re w (.sl .int) [.slice a0 n0 c0] (.l (xs0.map Dat.i))) (h1 : Re w (.sl .int) [.slice a1 n1 c1] (.l (xs1.map Dat.i))) (b0 : n0 ≤ 1048576) :
    Calls Try.prog 51 #[.agg #[.int .i64 m.c, .int .i64 m.w], .agg #[.slice a0 n0 c0, .slice a1 n1 c1], .int .i64 s] w fun e w' => e = .returned (.bool (arbOk m xs0 xs1 s)) ∧ Ext w w' := by
  have H0 := hid h0
  have H1 := hid h1
  have L0 := hid h0.len
  have L1 := hid h1.len
  clear h0 h1
  cases p1 : plcOk m with
  | false =>
    have E := hid (show arbOk m xs0 xs1 s = false by simp [arbOk, p1])
    go_enter Try.func51, Try.ntmps51
    try go_wp2_with (first
        | (go_at_call 32; refine (sPlcOk_c _ _).mono ?_; rintro e w' ⟨rfl, t, rfl⟩) | (go_at_call 33; refine (l1In_c _ _ _ _).mono ?_; rintro e w' ⟨rfl, rfl⟩)
        | (
          with_reducible refine wp_region_mix (by kernel_rfl) (by decide +kernel) ?_
          repeat (first
            | (refine mix_pure rfl ?_; (first | go_big_quiet_skip | (go_big_quiet_want; go_big_quiet_op; go_big_quiet_on)); refine wpQuiet_nil ?_)
            | (refine mix_skip (by rfl) ?_; (try simp only [Act.put, List.setIfInBounds_toArray, List.set_cons_zero, List.set_cons_succ]))
            | (refine mix_mk rfl (by rfl) (fun K hK => ?_); (first | (go_simp; first | (go_at_call 32; refine (sPlcOk_c _ _).mono ?_; rintro e w' ⟨rfl, t, rfl⟩) | (go_at_call 33; refine (l1In_c _ _ _ _).mono ?_; rintro e w' ⟨rfl, rfl⟩) | skip)); (show K _ _); refine hK _ _ (show Ext _ _ from (by ((try simp only [ext_drew]); (try simp only [ext_ext]); repeat (first | exact Ext.refl _ | with_reducible apply Ext.add | with_reducible apply Ext.dr | apply Ext.alloc | apply Ext.ext | apply Ext.drew | refine Ext.trans ?_ (by assumption))))) ?_; clear hK K; (try simp only [Act.put, List.setIfInBounds_toArray, List.set_cons_zero, List.set_cons_succ])))
          refine mix_nil ?_)
        | (
          with_reducible refine wp_region_ext (by kernel_rfl) (by kernel_rfl) ?_
          repeat (first | go_big_quiet_skip | (go_big_quiet_want; go_big_quiet_op; first | go_big_quiet_on | (apply Exists.intro; refine ⟨fun _ => ?_, ?_⟩; ((first | (go_at_call 32; first | exact quiet_call (sPlcOk_c _ _) | exact quiet_call2 (sPlcOk_c _ _)) | (go_at_call 33; first | exact quiet_same (l1In_c _ _ _ _) | exact quiet_same2 (l1In_c _ _ _ _)))); (try rw [h1]); (try rw [h2]); (try rw [h3]); (try rw [h4]); (try rw [p1]); (try rw [p2]); (try rw [p3]); (try rw [p4]); (try rw [r1]); (try rw [r2]); (try rw [r3]); (try rw [r4]); (try rw [r5]); (try rw [r6]); (try rw [q3]); (try rw [q4]); (try rw [hp]); (try rw [hq]); go_big_quiet_on)))
          refine wpQuiet_nil ?_
          rintro _ ⟨tq, rfl⟩))
    go_ret
    exact ⟨ret_bool (by rw [E.out]), (by ((try simp only [ext_drew]); (try simp only [ext_ext]); repeat (first | exact Ext.refl _ | with_reducible apply Ext.add | with_reducible apply Ext.dr | apply Ext.alloc | apply Ext.ext | apply Ext.drew | refine Ext.trans ?_ (by assumption))))⟩
  | true =>
    cases p2 : inB s 1 3 with
    | false =>
      have E := hid (show arbOk m xs0 xs1 s = false by simp [arbOk, p2])
      go_enter Try.func51, Try.ntmps51
      try go_wp2_with (first
          | (go_at_call 32; refine (sPlcOk_c _ _).mono ?_; rintro e w' ⟨rfl, t, rfl⟩) | (go_at_call 33; refine (l1In_c _ _ _ _).mono ?_; rintro e w' ⟨rfl, rfl⟩)
          | (
            with_reducible refine wp_region_mix (by kernel_rfl) (by decide +kernel) ?_
            repeat (first
              | (refine mix_pure rfl ?_; (first | go_big_quiet_skip | (go_big_quiet_want; go_big_quiet_op; go_big_quiet_on)); refine wpQuiet_nil ?_)
              | (refine mix_skip (by rfl) ?_; (try simp only [Act.put, List.setIfInBounds_toArray, List.set_cons_zero, List.set_cons_succ]))
              | (refine mix_mk rfl (by rfl) (fun K hK => ?_); (first | (go_simp; first | (go_at_call 32; refine (sPlcOk_c _ _).mono ?_; rintro e w' ⟨rfl, t, rfl⟩) | (go_at_call 33; refine (l1In_c _ _ _ _).mono ?_; rintro e w' ⟨rfl, rfl⟩) | skip)); (show K _ _); refine hK _ _ (show Ext _ _ from (by ((try simp only [ext_drew]); (try simp only [ext_ext]); repeat (first | exact Ext.refl _ | with_reducible apply Ext.add | with_reducible apply Ext.dr | apply Ext.alloc | apply Ext.ext | apply Ext.drew | refine Ext.trans ?_ (by assumption))))) ?_; clear hK K; (try simp only [Act.put, List.setIfInBounds_toArray, List.set_cons_zero, List.set_cons_succ])))
            refine mix_nil ?_)
          | (
            with_reducible refine wp_region_ext (by kernel_rfl) (by kernel_rfl) ?_
            repeat (first | go_big_quiet_skip | (go_big_quiet_want; go_big_quiet_op; first | go_big_quiet_on | (apply Exists.intro; refine ⟨fun _ => ?_, ?_⟩; ((first | (go_at_call 32; first | exact quiet_call (sPlcOk_c _ _) | exact quiet_call2 (sPlcOk_c _ _)) | (go_at_call 33; first | exact quiet_same (l1In_c _ _ _ _) | exact quiet_same2 (l1In_c _ _ _ _)))); (try rw [h1]); (try rw [h2]); (try rw [h3]); (try rw [h4]); (try rw [p1]); (try rw [p2]); (try rw [p3]); (try rw [p4]); (try rw [r1]); (try rw [r2]); (try rw [r3]); (try rw [r4]); (try rw [r5]); (try rw [r6]); (try rw [q3]); (try rw [q4]); (try rw [hp]); (try rw [hq]); go_big_quiet_on)))
            refine wpQuiet_nil ?_
            rintro _ ⟨tq, rfl⟩))
      go_ret
      exact ⟨ret_bool (by rw [E.out]), (by ((try simp only [ext_drew]); (try simp only [ext_ext]); repeat (first | exact Ext.refl _ | with_reducible apply Ext.add | with_reducible apply Ext.dr | apply Ext.alloc | apply Ext.ext | apply Ext.drew | refine Ext.trans ?_ (by assumption))))⟩
    | true =>
      obtain ⟨s1, s2⟩ := inB_iff.1 p2
      by_cases p3 : (n0 : Int) = m.c
      · have q3 := bne_f p3
        have P3 := hid p3
        clear p3
        by_cases p4 : (n1 : Int) = m.c
        · have q4 := bne_f p4
          have P4 := hid p4
          clear p4
          go_enter Try.func51, Try.ntmps51
          try go_wp2_with (first
              | (go_at_call 32; refine (sPlcOk_c _ _).mono ?_; rintro e w' ⟨rfl, t, rfl⟩) | (go_at_call 33; refine (l1In_c _ _ _ _).mono ?_; rintro e w' ⟨rfl, rfl⟩)
              | (
                with_reducible refine wp_region_mix (by kernel_rfl) (by decide +kernel) ?_
                repeat (first
                  | (refine mix_pure rfl ?_; (first | go_big_quiet_skip | (go_big_quiet_want; go_big_quiet_op; go_big_quiet_on)); refine wpQuiet_nil ?_)
                  | (refine mix_skip (by rfl) ?_; (try simp only [Act.put, List.setIfInBounds_toArray, List.set_cons_zero, List.set_cons_succ]))
                  | (refine mix_mk rfl (by rfl) (fun K hK => ?_); (first | (go_simp; first | (go_at_call 32; refine (sPlcOk_c _ _).mono ?_; rintro e w' ⟨rfl, t, rfl⟩) | (go_at_call 33; refine (l1In_c _ _ _ _).mono ?_; rintro e w' ⟨rfl, rfl⟩) | skip)); (show K _ _); refine hK _ _ (show Ext _ _ from (by ((try simp only [ext_drew]); (try simp only [ext_ext]); repeat (first | exact Ext.refl _ | with_reducible apply Ext.add | with_reducible apply Ext.dr | apply Ext.alloc | apply Ext.ext | apply Ext.drew | refine Ext.trans ?_ (by assumption))))) ?_; clear hK K; (try simp only [Act.put, List.setIfInBounds_toArray, List.set_cons_zero, List.set_cons_succ])))
                refine mix_nil ?_)
              | (
                with_reducible refine wp_region_ext (by kernel_rfl) (by kernel_rfl) ?_
                repeat (first | go_big_quiet_skip | (go_big_quiet_want; go_big_quiet_op; first | go_big_quiet_on | (apply Exists.intro; refine ⟨fun _ => ?_, ?_⟩; ((first | (go_at_call 32; first | exact quiet_call (sPlcOk_c _ _) | exact quiet_call2 (sPlcOk_c _ _)) | (go_at_call 33; first | exact quiet_same (l1In_c _ _ _ _) | exact quiet_same2 (l1In_c _ _ _ _)))); (try rw [h1]); (try rw [h2]); (try rw [h3]); (try rw [h4]); (try rw [p1]); (try rw [p2]); (try rw [p3]); (try rw [p4]); (try rw [r1]); (try rw [r2]); (try rw [r3]); (try rw [r4]); (try rw [r5]); (try rw [r6]); (try rw [q3]); (try rw [q4]); (try rw [hp]); (try rw [hq]); go_big_quiet_on)))
                refine wpQuiet_nil ?_
                rintro _ ⟨tq, rfl⟩))
          go_loopw [7] (fun i wr => ∃ k : Nat, k ≤ n0 ∧ i = .int .i64 k ∧ allI (arbRow s) 0 ((xs0.zip xs1).take k) = true ∧ Ext ((w.alloc (Obj.cells #[.int .i64 m.c, .int .i64 m.w] 35)).alloc (Obj.cells #[.slice a0 n0 c0, .slice a1 n1 c1] 61)) wr) (fun i _ => n0 - (intOf i).toNat)
          case atStart => exact ⟨0, Nat.zero_le _, rfl, rfl, (by ((try simp only [ext_drew]); (try simp only [ext_ext]); repeat (first | exact Ext.refl _ | with_reducible apply Ext.add | with_reducible apply Ext.dr | apply Ext.alloc | apply Ext.ext | apply Ext.drew | refine Ext.trans ?_ (by assumption))))⟩
          case round =>
            obtain ⟨k, hk, rfl, hal, t', rfl⟩ := hrel
            have HA := hid hal
            clear hal
            by_cases hlt : k < n0
            · have hltm : (k : Int) < m.c := by have := P3.out; omega
              have hlt1 : k < n1 := by have := P3.out; have := P4.out; omega
              obtain ⟨x, b, o, hxk, rfl, hb, f0⟩ := at_Int H0.out hlt
              obtain ⟨y, b', o', hyk, rfl, hb', g0⟩ := at_Int H1.out hlt1
              have HK := hid (show (xs0.zip xs1)[k]? = some (x, y) from List.getElem?_zip_eq_some.2 ⟨hxk, hyk⟩)
              clear hxk hyk
              have hb1 : b ≤ w.heap.size := Nat.le_of_lt hb
              have hb1' : b' ≤ w.heap.size := Nat.le_of_lt hb'
              cases r1 : inB x (-1) (s - 1) with
              | false =>
                have E := hid (show arbOk m xs0 xs1 s = false by have := allI_fail (p := arbRow s) HK.out (by simp [arbRow, r1]); simp [arbOk, this])
                try go_wp2_with (first
                    | (go_at_call 33; refine (l1In_c _ _ _ _).mono ?_; rintro e w' ⟨rfl, rfl⟩)
                    | (
                      with_reducible refine wp_region_mix (by kernel_rfl) (by decide +kernel) ?_
                      repeat (first
                        | (refine mix_pure rfl ?_; (first | go_big_quiet_skip | (go_big_quiet_want; go_big_quiet_op; go_big_quiet_on)); refine wpQuiet_nil ?_)
                        | (refine mix_skip (by rfl) ?_; (try simp only [Act.put, List.setIfInBounds_toArray, List.set_cons_zero, List.set_cons_succ]))
                        | (refine mix_mk rfl (by rfl) (fun K hK => ?_); (first | (go_simp; first | (go_at_call 33; refine (l1In_c _ _ _ _).mono ?_; rintro e w' ⟨rfl, rfl⟩) | skip)); (show K _ _); refine hK _ _ (show Ext _ _ from (by ((try simp only [ext_drew]); (try simp only [ext_ext]); repeat (first | exact Ext.refl _ | with_reducible apply Ext.add | with_reducible apply Ext.dr | apply Ext.alloc | apply Ext.ext | apply Ext.drew | refine Ext.trans ?_ (by assumption))))) ?_; clear hK K; (try simp only [Act.put, List.setIfInBounds_toArray, List.set_cons_zero, List.set_cons_succ])))
                      refine mix_nil ?_)
                    | (
                      with_reducible refine wp_region_ext (by kernel_rfl) (by kernel_rfl) ?_
                      repeat (first | go_big_quiet_skip | (go_big_quiet_want; go_big_quiet_op; first | go_big_quiet_on | (apply Exists.intro; refine ⟨fun _ => ?_, ?_⟩; ((first | (go_at_call 33; first | exact quiet_same (l1In_c _ _ _ _) | exact quiet_same2 (l1In_c _ _ _ _)))); (try rw [h1]); (try rw [h2]); (try rw [h3]); (try rw [h4]); (try rw [p1]); (try rw [p2]); (try rw [p3]); (try rw [p4]); (try rw [r1]); (try rw [r2]); (try rw [r3]); (try rw [r4]); (try rw [r5]); (try rw [r6]); (try rw [q3]); (try rw [q4]); (try rw [hp]); (try rw [hq]); go_big_quiet_on)))
                      refine wpQuiet_nil ?_
                      rintro _ ⟨tq, rfl⟩))
                go_ret
                exact ⟨ret_bool (by rw [E.out]), (by ((try simp only [ext_drew]); (try simp only [ext_ext]); repeat (first | exact Ext.refl _ | with_reducible apply Ext.add | with_reducible apply Ext.dr | apply Ext.alloc | apply Ext.ext | apply Ext.drew | refine Ext.trans ?_ (by assumption))))⟩
              | true =>
                cases r2 : inB y 0 900 with
                | false =>
                  have E := hid (show arbOk m xs0 xs1 s = false by have := allI_fail (p := arbRow s) HK.out (by simp [arbRow, r2]); simp [arbOk, this])
                  try go_wp2_with (first
                      | (go_at_call 33; refine (l1In_c _ _ _ _).mono ?_; rintro e w' ⟨rfl, rfl⟩)
                      | (
                        with_reducible refine wp_region_mix (by kernel_rfl) (by decide +kernel) ?_
                        repeat (first
                          | (refine mix_pure rfl ?_; (first | go_big_quiet_skip | (go_big_quiet_want; go_big_quiet_op; go_big_quiet_on)); refine wpQuiet_nil ?_)
                          | (refine mix_skip (by rfl) ?_; (try simp only [Act.put, List.setIfInBounds_toArray, List.set_cons_zero, List.set_cons_succ]))
                          | (refine mix_mk rfl (by rfl) (fun K hK => ?_); (first | (go_simp; first | (go_at_call 33; refine (l1In_c _ _ _ _).mono ?_; rintro e w' ⟨rfl, rfl⟩) | skip)); (show K _ _); refine hK _ _ (show Ext _ _ from (by ((try simp only [ext_drew]); (try simp only [ext_ext]); repeat (first | exact Ext.refl _ | with_reducible apply Ext.add | with_reducible apply Ext.dr | apply Ext.alloc | apply Ext.ext | apply Ext.drew | refine Ext.trans ?_ (by assumption))))) ?_; clear hK K; (try simp only [Act.put, List.setIfInBounds_toArray, List.set_cons_zero, List.set_cons_succ])))
                        refine mix_nil ?_)
                      | (
                        with_reducible refine wp_region_ext (by kernel_rfl) (by kernel_rfl) ?_
                        repeat (first | go_big_quiet_skip | (go_big_quiet_want; go_big_quiet_op; first | go_big_quiet_on | (apply Exists.intro; refine ⟨fun _ => ?_, ?_⟩; ((first | (go_at_call 33; first | exact quiet_same (l1In_c _ _ _ _) | exact quiet_same2 (l1In_c _ _ _ _)))); (try rw [h1]); (try rw [h2]); (try rw [h3]); (try rw [h4]); (try rw [p1]); (try rw [p2]); (try rw [p3]); (try rw [p4]); (try rw [r1]); (try rw [r2]); (try rw [r3]); (try rw [r4]); (try rw [r5]); (try rw [r6]); (try rw [q3]); (try rw [q4]); (try rw [hp]); (try rw [hq]); go_big_quiet_on)))
                        refine wpQuiet_nil ?_
                        rintro _ ⟨tq, rfl⟩))
                  go_ret
                  exact ⟨ret_bool (by rw [E.out]), (by ((try simp only [ext_drew]); (try simp only [ext_ext]); repeat (first | exact Ext.refl _ | with_reducible apply Ext.add | with_reducible apply Ext.dr | apply Ext.alloc | apply Ext.ext | apply Ext.drew | refine Ext.trans ?_ (by assumption))))⟩
                | true =>
                  cases r3 : (x == -1) <;> cases r4 : (y == 0)
                  · have HB := hid (allI_step (p := arbRow s) HK.out HA.out (by simp [arbRow, r1, r2, r3, r4]))
                    try go_wp2_with (first
                        | (go_at_call 33; refine (l1In_c _ _ _ _).mono ?_; rintro e w' ⟨rfl, rfl⟩)
                        | (
                          with_reducible refine wp_region_mix (by kernel_rfl) (by decide +kernel) ?_
                          repeat (first
                            | (refine mix_pure rfl ?_; (first | go_big_quiet_skip | (go_big_quiet_want; go_big_quiet_op; go_big_quiet_on)); refine wpQuiet_nil ?_)
                            | (refine mix_skip (by rfl) ?_; (try simp only [Act.put, List.setIfInBounds_toArray, List.set_cons_zero, List.set_cons_succ]))
                            | (refine mix_mk rfl (by rfl) (fun K hK => ?_); (first | (go_simp; first | (go_at_call 33; refine (l1In_c _ _ _ _).mono ?_; rintro e w' ⟨rfl, rfl⟩) | skip)); (show K _ _); refine hK _ _ (show Ext _ _ from (by ((try simp only [ext_drew]); (try simp only [ext_ext]); repeat (first | exact Ext.refl _ | with_reducible apply Ext.add | with_reducible apply Ext.dr | apply Ext.alloc | apply Ext.ext | apply Ext.drew | refine Ext.trans ?_ (by assumption))))) ?_; clear hK K; (try simp only [Act.put, List.setIfInBounds_toArray, List.set_cons_zero, List.set_cons_succ])))
                          refine mix_nil ?_)
                        | (
                          with_reducible refine wp_region_ext (by kernel_rfl) (by kernel_rfl) ?_
                          repeat (first | go_big_quiet_skip | (go_big_quiet_want; go_big_quiet_op; first | go_big_quiet_on | (apply Exists.intro; refine ⟨fun _ => ?_, ?_⟩; ((first | (go_at_call 33; first | exact quiet_same (l1In_c _ _ _ _) | exact quiet_same2 (l1In_c _ _ _ _)))); (try rw [h1]); (try rw [h2]); (try rw [h3]); (try rw [h4]); (try rw [p1]); (try rw [p2]); (try rw [p3]); (try rw [p4]); (try rw [r1]); (try rw [r2]); (try rw [r3]); (try rw [r4]); (try rw [r5]); (try rw [r6]); (try rw [q3]); (try rw [q4]); (try rw [hp]); (try rw [hq]); go_big_quiet_on)))
                          refine wpQuiet_nil ?_
                          rintro _ ⟨tq, rfl⟩))
                    go_roundw
                    case rel => exact ⟨k + 1, by omega, by go_num, HB.out, (by ((try simp only [ext_drew]); (try simp only [ext_ext]); repeat (first | exact Ext.refl _ | with_reducible apply Ext.add | with_reducible apply Ext.dr | apply Ext.alloc | apply Ext.ext | apply Ext.drew | refine Ext.trans ?_ (by assumption))))⟩
                    case measure => simp [intOf]; omega
                  · have E := hid (show arbOk m xs0 xs1 s = false by have := allI_fail (p := arbRow s) HK.out (by simp [arbRow, r3, r4]); simp [arbOk, this])
                    try go_wp2_with (first
                        | (go_at_call 33; refine (l1In_c _ _ _ _).mono ?_; rintro e w' ⟨rfl, rfl⟩)
                        | (
                          with_reducible refine wp_region_mix (by kernel_rfl) (by decide +kernel) ?_
                          repeat (first
                            | (refine mix_pure rfl ?_; (first | go_big_quiet_skip | (go_big_quiet_want; go_big_quiet_op; go_big_quiet_on)); refine wpQuiet_nil ?_)
                            | (refine mix_skip (by rfl) ?_; (try simp only [Act.put, List.setIfInBounds_toArray, List.set_cons_zero, List.set_cons_succ]))
                            | (refine mix_mk rfl (by rfl) (fun K hK => ?_); (first | (go_simp; first | (go_at_call 33; refine (l1In_c _ _ _ _).mono ?_; rintro e w' ⟨rfl, rfl⟩) | skip)); (show K _ _); refine hK _ _ (show Ext _ _ from (by ((try simp only [ext_drew]); (try simp only [ext_ext]); repeat (first | exact Ext.refl _ | with_reducible apply Ext.add | with_reducible apply Ext.dr | apply Ext.alloc | apply Ext.ext | apply Ext.drew | refine Ext.trans ?_ (by assumption))))) ?_; clear hK K; (try simp only [Act.put, List.setIfInBounds_toArray, List.set_cons_zero, List.set_cons_succ])))
                          refine mix_nil ?_)
                        | (
                          with_reducible refine wp_region_ext (by kernel_rfl) (by kernel_rfl) ?_
                          repeat (first | go_big_quiet_skip | (go_big_quiet_want; go_big_quiet_op; first | go_big_quiet_on | (apply Exists.intro; refine ⟨fun _ => ?_, ?_⟩; ((first | (go_at_call 33; first | exact quiet_same (l1In_c _ _ _ _) | exact quiet_same2 (l1In_c _ _ _ _)))); (try rw [h1]); (try rw [h2]); (try rw [h3]); (try rw [h4]); (try rw [p1]); (try rw [p2]); (try rw [p3]); (try rw [p4]); (try rw [r1]); (try rw [r2]); (try rw [r3]); (try rw [r4]); (try rw [r5]); (try rw [r6]); (try rw [q3]); (try rw [q4]); (try rw [hp]); (try rw [hq]); go_big_quiet_on)))
                          refine wpQuiet_nil ?_
                          rintro _ ⟨tq, rfl⟩))
                    go_ret
                    exact ⟨ret_bool (by rw [E.out]), (by ((try simp only [ext_drew]); (try simp only [ext_ext]); repeat (first | exact Ext.refl _ | with_reducible apply Ext.add | with_reducible apply Ext.dr | apply Ext.alloc | apply Ext.ext | apply Ext.drew | refine Ext.trans ?_ (by assumption))))⟩
                  · have E := hid (show arbOk m xs0 xs1 s = false by have := allI_fail (p := arbRow s) HK.out (by simp [arbRow, r3, r4]); simp [arbOk, this])
                    try go_wp2_with (first
                        | (go_at_call 33; refine (l1In_c _ _ _ _).mono ?_; rintro e w' ⟨rfl, rfl⟩)
                        | (
                          with_reducible refine wp_region_mix (by kernel_rfl) (by decide +kernel) ?_
                          repeat (first
                            | (refine mix_pure rfl ?_; (first | go_big_quiet_skip | (go_big_quiet_want; go_big_quiet_op; go_big_quiet_on)); refine wpQuiet_nil ?_)
                            | (refine mix_skip (by rfl) ?_; (try simp only [Act.put, List.setIfInBounds_toArray, List.set_cons_zero, List.set_cons_succ]))
                            | (refine mix_mk rfl (by rfl) (fun K hK => ?_); (first | (go_simp; first | (go_at_call 33; refine (l1In_c _ _ _ _).mono ?_; rintro e w' ⟨rfl, rfl⟩) | skip)); (show K _ _); refine hK _ _ (show Ext _ _ from (by ((try simp only [ext_drew]); (try simp only [ext_ext]); repeat (first | exact Ext.refl _ | with_reducible apply Ext.add | with_reducible apply Ext.dr | apply Ext.alloc | apply Ext.ext | apply Ext.drew | refine Ext.trans ?_ (by assumption))))) ?_; clear hK K; (try simp only [Act.put, List.setIfInBounds_toArray, List.set_cons_zero, List.set_cons_succ])))
                          refine mix_nil ?_)
                        | (
                          with_reducible refine wp_region_ext (by kernel_rfl) (by kernel_rfl) ?_
                          repeat (first | go_big_quiet_skip | (go_big_quiet_want; go_big_quiet_op; first | go_big_quiet_on | (apply Exists.intro; refine ⟨fun _ => ?_, ?_⟩; ((first | (go_at_call 33; first | exact quiet_same (l1In_c _ _ _ _) | exact quiet_same2 (l1In_c _ _ _ _)))); (try rw [h1]); (try rw [h2]); (try rw [h3]); (try rw [h4]); (try rw [p1]); (try rw [p2]); (try rw [p3]); (try rw [p4]); (try rw [r1]); (try rw [r2]); (try rw [r3]); (try rw [r4]); (try rw [r5]); (try rw [r6]); (try rw [q3]); (try rw [q4]); (try rw [hp]); (try rw [hq]); go_big_quiet_on)))
                          refine wpQuiet_nil ?_
                          rintro _ ⟨tq, rfl⟩))
                    go_ret
                    exact ⟨ret_bool (by rw [E.out]), (by ((try simp only [ext_drew]); (try simp only [ext_ext]); repeat (first | exact Ext.refl _ | with_reducible apply Ext.add | with_reducible apply Ext.dr | apply Ext.alloc | apply Ext.ext | apply Ext.drew | refine Ext.trans ?_ (by assumption))))⟩
                  · have HB := hid (allI_step (p := arbRow s) HK.out HA.out (by simp [arbRow, r1, r2, r3, r4]))
                    try go_wp2_with (first
                        | (go_at_call 33; refine (l1In_c _ _ _ _).mono ?_; rintro e w' ⟨rfl, rfl⟩)
                        | (
                          with_reducible refine wp_region_mix (by kernel_rfl) (by decide +kernel) ?_
                          repeat (first
                            | (refine mix_pure rfl ?_; (first | go_big_quiet_skip | (go_big_quiet_want; go_big_quiet_op; go_big_quiet_on)); refine wpQuiet_nil ?_)
                            | (refine mix_skip (by rfl) ?_; (try simp only [Act.put, List.setIfInBounds_toArray, List.set_cons_zero, List.set_cons_succ]))
                            | (refine mix_mk rfl (by rfl) (fun K hK => ?_); (first | (go_simp; first | (go_at_call 33; refine (l1In_c _ _ _ _).mono ?_; rintro e w' ⟨rfl, rfl⟩) | skip)); (show K _ _); refine hK _ _ (show Ext _ _ from (by ((try simp only [ext_drew]); (try simp only [ext_ext]); repeat (first | exact Ext.refl _ | with_reducible apply Ext.add | with_reducible apply Ext.dr | apply Ext.alloc | apply Ext.ext | apply Ext.drew | refine Ext.trans ?_ (by assumption))))) ?_; clear hK K; (try simp only [Act.put, List.setIfInBounds_toArray, List.set_cons_zero, List.set_cons_succ])))
                          refine mix_nil ?_)
                        | (
                          with_reducible refine wp_region_ext (by kernel_rfl) (by kernel_rfl) ?_
                          repeat (first | go_big_quiet_skip | (go_big_quiet_want; go_big_quiet_op; first | go_big_quiet_on | (apply Exists.intro; refine ⟨fun _ => ?_, ?_⟩; ((first | (go_at_call 33; first | exact quiet_same (l1In_c _ _ _ _) | exact quiet_same2 (l1In_c _ _ _ _)))); (try rw [h1]); (try rw [h2]); (try rw [h3]); (try rw [h4]); (try rw [p1]); (try rw [p2]); (try rw [p3]); (try rw [p4]); (try rw [r1]); (try rw [r2]); (try rw [r3]); (try rw [r4]); (try rw [r5]); (try rw [r6]); (try rw [q3]); (try rw [q4]); (try rw [hp]); (try rw [hq]); go_big_quiet_on)))
                          refine wpQuiet_nil ?_
                          rintro _ ⟨tq, rfl⟩))
                    go_roundw
                    case rel => exact ⟨k + 1, by omega, by go_num, HB.out, (by ((try simp only [ext_drew]); (try simp only [ext_ext]); repeat (first | exact Ext.refl _ | with_reducible apply Ext.add | with_reducible apply Ext.dr | apply Ext.alloc | apply Ext.ext | apply Ext.drew | refine Ext.trans ?_ (by assumption))))⟩
                    case measure => simp [intOf]; omega
            · have hltm : ¬ (k : Int) < m.c := by have := P3.out; omega
              have E := hid (show arbOk m xs0 xs1 s = true by
                have := allI_all (p := arbRow s) (xs := xs0.zip xs1) (k := k) (by rw [List.length_zip]; have := L0.out; omega) HA.out
                have l0 := L0.out; have l1 := L1.out; have q0 := P3.out; have q1 := P4.out
                simp [arbOk, this, p1, p2]; omega)
              try go_wp2_with (first
                  | fail
                  | (
                    with_reducible refine wp_region_mix (by kernel_rfl) (by decide +kernel) ?_
                    repeat (first
                      | (refine mix_pure rfl ?_; (first | go_big_quiet_skip | (go_big_quiet_want; go_big_quiet_op; go_big_quiet_on)); refine wpQuiet_nil ?_)
                      | (refine mix_skip (by rfl) ?_; (try simp only [Act.put, List.setIfInBounds_toArray, List.set_cons_zero, List.set_cons_succ]))
                      | (refine mix_mk rfl (by rfl) (fun K hK => ?_); (first | (go_simp; first | skip)); (show K _ _); refine hK _ _ (show Ext _ _ from (by ((try simp only [ext_drew]); (try simp only [ext_ext]); repeat (first | exact Ext.refl _ | with_reducible apply Ext.add | with_reducible apply Ext.dr | apply Ext.alloc | apply Ext.ext | apply Ext.drew | refine Ext.trans ?_ (by assumption))))) ?_; clear hK K; (try simp only [Act.put, List.setIfInBounds_toArray, List.set_cons_zero, List.set_cons_succ])))
                    refine mix_nil ?_)
                  | (
                    with_reducible refine wp_region_ext (by kernel_rfl) (by kernel_rfl) ?_
                    repeat (first | go_big_quiet_skip | (go_big_quiet_want; go_big_quiet_op; first | go_big_quiet_on | (apply Exists.intro; refine ⟨fun _ => ?_, ?_⟩; (fail); (try rw [h1]); (try rw [h2]); (try rw [h3]); (try rw [h4]); (try rw [p1]); (try rw [p2]); (try rw [p3]); (try rw [p4]); (try rw [r1]); (try rw [r2]); (try rw [r3]); (try rw [r4]); (try rw [r5]); (try rw [r6]); (try rw [q3]); (try rw [q4]); (try rw [hp]); (try rw [hq]); go_big_quiet_on)))
                    refine wpQuiet_nil ?_
                    rintro _ ⟨tq, rfl⟩))
              go_ret
              exact ⟨ret_bool (by rw [E.out]), (by ((try simp only [ext_drew]); (try simp only [ext_ext]); repeat (first | exact Ext.refl _ | with_reducible apply Ext.add | with_reducible apply Ext.dr | apply Ext.alloc | apply Ext.ext | apply Ext.drew | refine Ext.trans ?_ (by assumption))))⟩
        · have q4 := bne_t p4
          have E := hid (show arbOk m xs0 xs1 s = false by have := L1.out; simp [arbOk, ← this, p4])
          clear p4
          go_enter Try.func51, Try.ntmps51
          try go_wp2_with (first
              | (go_at_call 32; refine (sPlcOk_c _ _).mono ?_; rintro e w' ⟨rfl, t, rfl⟩) | (go_at_call 33; refine (l1In_c _ _ _ _).mono ?_; rintro e w' ⟨rfl, rfl⟩)
              | (
                with_reducible refine wp_region_mix (by kernel_rfl) (by decide +kernel) ?_
                repeat (first
                  | (refine mix_pure rfl ?_; (first | go_big_quiet_skip | (go_big_quiet_want; go_big_quiet_op; go_big_quiet_on)); refine wpQuiet_nil ?_)
                  | (refine mix_skip (by rfl) ?_; (try simp only [Act.put, List.setIfInBounds_toArray, List.set_cons_zero, List.set_cons_succ]))
                  | (refine mix_mk rfl (by rfl) (fun K hK => ?_); (first | (go_simp; first | (go_at_call 32; refine (sPlcOk_c _ _).mono ?_; rintro e w' ⟨rfl, t, rfl⟩) | (go_at_call 33; refine (l1In_c _ _ _ _).mono ?_; rintro e w' ⟨rfl, rfl⟩) | skip)); (show K _ _); refine hK _ _ (show Ext _ _ from (by ((try simp only [ext_drew]); (try simp only [ext_ext]); repeat (first | exact Ext.refl _ | with_reducible apply Ext.add | with_reducible apply Ext.dr | apply Ext.alloc | apply Ext.ext | apply Ext.drew | refine Ext.trans ?_ (by assumption))))) ?_; clear hK K; (try simp only [Act.put, List.setIfInBounds_toArray, List.set_cons_zero, List.set_cons_succ])))
                refine mix_nil ?_)
              | (
                with_reducible refine wp_region_ext (by kernel_rfl) (by kernel_rfl) ?_
                repeat (first | go_big_quiet_skip | (go_big_quiet_want; go_big_quiet_op; first | go_big_quiet_on | (apply Exists.intro; refine ⟨fun _ => ?_, ?_⟩; ((first | (go_at_call 32; first | exact quiet_call (sPlcOk_c _ _) | exact quiet_call2 (sPlcOk_c _ _)) | (go_at_call 33; first | exact quiet_same (l1In_c _ _ _ _) | exact quiet_same2 (l1In_c _ _ _ _)))); (try rw [h1]); (try rw [h2]); (try rw [h3]); (try rw [h4]); (try rw [p1]); (try rw [p2]); (try rw [p3]); (try rw [p4]); (try rw [r1]); (try rw [r2]); (try rw [r3]); (try rw [r4]); (try rw [r5]); (try rw [r6]); (try rw [q3]); (try rw [q4]); (try rw [hp]); (try rw [hq]); go_big_quiet_on)))
                refine wpQuiet_nil ?_
                rintro _ ⟨tq, rfl⟩))
          go_ret
          exact ⟨ret_bool (by rw [E.out]), (by ((try simp only [ext_drew]); (try simp only [ext_ext]); repeat (first | exact Ext.refl _ | with_reducible apply Ext.add | with_reducible apply Ext.dr | apply Ext.alloc | apply Ext.ext | apply Ext.drew | refine Ext.trans ?_ (by assumption))))⟩
      · have q3 := bne_t p3
        have E := hid (show arbOk m xs0 xs1 s = false by have := L0.out; simp [arbOk, ← this, p3])
        clear p3
        go_enter Try.func51, Try.ntmps51
        try go_wp2_with (first
            | (go_at_call 32; refine (sPlcOk_c _ _).mono ?_; rintro e w' ⟨rfl, t, rfl⟩) | (go_at_call 33; refine (l1In_c _ _ _ _).mono ?_; rintro e w' ⟨rfl, rfl⟩)
            | (
              with_reducible refine wp_region_mix (by kernel_rfl) (by decide +kernel) ?_
              repeat (first
                | (refine mix_pure rfl ?_; (first | go_big_quiet_skip | (go_big_quiet_want; go_big_quiet_op; go_big_quiet_on)); refine wpQuiet_nil ?_)
                | (refine mix_skip (by rfl) ?_; (try simp only [Act.put, List.setIfInBounds_toArray, List.set_cons_zero, List.set_cons_succ]))
                | (refine mix_mk rfl (by rfl) (fun K hK => ?_); (first | (go_simp; first | (go_at_call 32; refine (sPlcOk_c _ _).mono ?_; rintro e w' ⟨rfl, t, rfl⟩) | (go_at_call 33; refine (l1In_c _ _ _ _).mono ?_; rintro e w' ⟨rfl, rfl⟩) | skip)); (show K _ _); refine hK _ _ (show Ext _ _ from (by ((try simp only [ext_drew]); (try simp only [ext_ext]); repeat (first | exact Ext.refl _ | with_reducible apply Ext.add | with_reducible apply Ext.dr | apply Ext.alloc | apply Ext.ext | apply Ext.drew | refine Ext.trans ?_ (by assumption))))) ?_; clear hK K; (try simp only [Act.put, List.setIfInBounds_toArray, List.set_cons_zero, List.set_cons_succ])))
              refine mix_nil ?_)
            | (
              with_reducible refine wp_region_ext (by kernel_rfl) (by kernel_rfl) ?_
              repeat (first | go_big_quiet_skip | (go_big_quiet_want; go_big_quiet_op; first | go_big_quiet_on | (apply Exists.intro; refine ⟨fun _ => ?_, ?_⟩; ((first | (go_at_call 32; first | exact quiet_call (sPlcOk_c _ _) | exact quiet_call2 (sPlcOk_c _ _)) | (go_at_call 33; first | exact quiet_same (l1In_c _ _ _ _) | exact quiet_same2 (l1In_c _ _ _ _)))); (try rw [h1]); (try rw [h2]); (try rw [h3]); (try rw [h4]); (try rw [p1]); (try rw [p2]); (try rw [p3]); (try rw [p4]); (try rw [r1]); (try rw [r2]); (try rw [r3]); (try rw [r4]); (try rw [r5]); (try rw [r6]); (try rw [q3]); (try rw [q4]); (try rw [hp]); (try rw [hq]); go_big_quiet_on)))
              refine wpQuiet_nil ?_
              rintro _ ⟨tq, rfl⟩))
        go_ret
        exact ⟨ret_bool (by rw [E.out]), (by ((try simp only [ext_drew]); (try simp only [ext_ext]); repeat (first | exact Ext.refl _ | with_reducible apply Ext.add | with_reducible apply Ext.dr | apply Ext.alloc | apply Ext.ext | apply Ext.drew | refine Ext.trans ?_ (by assumption))))⟩
end Go.Proofs.Ytnfodkhfoegnaaa
