/- FnPlcSides: what lies on a side of a cell has that cell on its other side; as many places in each cell; for all codes. -/
import Derived.Test.YtbbpipbemhggdaaDrawP
import Derived.Test.YtbbpipbemhggdaaMa
import Derived.Test.YtbbpipbemhggdaaTo
namespace Go.Proofs.Ytbbpipbemhggdaa
open Go.ChangeShapes Go.WideShapes Go.ChangeAt Go.RowKit
set_option linter.unusedSimpArgs false
set_option linter.unusedVariables false

theorem side_back {m : Mp} {c s : Int} (h : plcSide m c s ≠ -1) : plcSide m (plcSide m c s) (1 - s) = c := by
  obtain ⟨ok, c0, c1, s0, s1, e, d0, d1⟩ := plcSide_ne h
  rw [e, plcSide_in ok (inB_iff.2 ⟨d0, d1⟩) (inB_iff.2 ⟨by omega, by omega⟩) (inB_iff.2 ⟨by omega, by omega⟩)]
  omega
theorem cell_zero {m : Mp} {p : Int} (ok : plcOk m = true) : plcCell m p = 0 ↔ 0 ≤ p ∧ p < m.w := by
  obtain ⟨⟨a1, a2⟩, a3, a4⟩ := plcOk_iff.1 ok
  constructor
  · intro h
    have h2 : plcCell m p ≠ -1 := by omega
    obtain ⟨l1, l2⟩ := plcCell_eq ok h2
    rw [h] at l1 l2
    omega
  · intro ⟨h1, h2⟩
    exact plcCell_at ok (by omega) (by omega) (by omega) (by omega)
theorem iPlcOk_h (m : Mp) (b : Bool) (w : World) (h : Hid (plcOk m = b)) : Calls Try.prog 13 #[.agg #[.int .i64 m.c, .int .i64 m.w]] w fun e w' => e = .returned (.bool b) ∧ Ext w w' := h.out ▸ iPlcOk_c m w
theorem sPlcOk_h (m : Mp) (b : Bool) (w : World) (h : Hid (plcOk m = b)) : Calls Try.prog 14 #[.agg #[.int .i64 m.c, .int .i64 m.w]] w fun e w' => e = .returned (.bool b) ∧ Ext w w' := h.out ▸ sPlcOk_c m w
theorem iPlcSide_h (m : Mp) (c s b : Int) (w : World) (h : Hid (plcSide m c s = b)) : Calls Try.prog 11 #[.agg #[.int .i64 m.c, .int .i64 m.w], .int .i64 c, .int .i64 s] w fun e w' => e = .returned (.int .i64 b) ∧ Ext w w' := h.out ▸ iPlcSide_c m c s w
theorem sPlcSide_h (m : Mp) (c s b : Int) (w : World) (h : Hid (plcSide m c s = b)) : Calls Try.prog 12 #[.agg #[.int .i64 m.c, .int .i64 m.w], .int .i64 c, .int .i64 s] w fun e w' => e = .returned (.int .i64 b) ∧ Ext w w' := h.out ▸ sPlcSide_c m c s w
theorem iPlcCell_h (m : Mp) (p b : Int) (w : World) (h : Hid (plcCell m p = b)) : Calls Try.prog 16 #[.agg #[.int .i64 m.c, .int .i64 m.w], .int .i64 p] w fun e w' => e = .returned (.int .i64 b) ∧ Ext w w' := h.out ▸ iPlcCell_c m p w
theorem sPlcCell_h (m : Mp) (p b : Int) (w : World) (h : Hid (plcCell m p = b)) : Calls Try.prog 17 #[.agg #[.int .i64 m.c, .int .i64 m.w], .int .i64 p] w fun e w' => e = .returned (.int .i64 b) ∧ Ext w w' := h.out ▸ sPlcCell_c m p w
set_option maxRecDepth 100000 in
set_option maxHeartbeats 4000000 in
theorem fnPlcSides_walk (W : World) (a : Option Addr) (n c : Nat) (hc : n ≤ c) (hB : Bytes W.heap.size W a n) :
    Calls Try.prog 3 #[.slice a n c] W fun e W' => e = .returned (.bool true) ∧ Below W.heap.size W W' := by
  by_cases hn : (1048576 : Int) < n
  · clear hB
    go_enter Try.func3, Try.ntmps3
    try go_wp2_with (first
        | fail
        | (
          with_reducible refine wp_region_mix (by kernel_rfl) (by decide +kernel) ?_
          repeat (first
            | (refine mix_pure rfl ?_; (first | go_big_quiet_skip | (go_big_quiet_want; go_big_quiet_op; go_big_quiet_on)); refine wpQuiet_nil ?_)
            | (refine mix_skip (by rfl) ?_; (try simp only [Act.put, List.setIfInBounds_toArray, List.set_cons_zero, List.set_cons_succ]))
            | (refine mix_mk rfl (by rfl) (fun K hK => ?_); (first | (go_simp; first | skip)); (show K _ _); refine hK _ _ (show Ext _ _ from (by ((try simp only [ext_drew]); (try simp only [ext_ext]); repeat (first | exact Ext.refl _ | with_reducible apply Ext.add | with_reducible apply Ext.dr | apply Ext.alloc | apply Ext.ext | apply Ext.drew | refine Ext.trans ?_ (by assumption))))) ?_; clear hK K; (try simp only [Act.put, List.setIfInBounds_toArray, List.set_cons_zero, List.set_cons_succ])))
          refine mix_nil ?_)
        | (
          with_reducible refine wp_region_ext (by kernel_rfl) (by kernel_rfl) ?_
          repeat (first | go_big_quiet_skip | (go_big_quiet_want; go_big_quiet_op; first | go_big_quiet_on | (apply Exists.intro; refine ⟨fun _ => ?_, ?_⟩; (fail); (try rw [h1]); (try rw [h2]); (try rw [h3]); (try rw [h4]); (try rw [p1]); (try rw [p2]); (try rw [p3]); (try rw [p4]); (try rw [r1]); (try rw [r2]); (try rw [r3]); (try rw [r4]); (try rw [r5]); (try rw [r6]); (try rw [q3]); (try rw [q4]); (try rw [hp]); (try rw [hq]); go_big_quiet_on)))
          refine wpQuiet_nil ?_
          rintro _ ⟨tq, rfl⟩))
    go_ret
    exact ⟨rfl, Ext.below (by ((try simp only [ext_drew]); (try simp only [ext_ext]); repeat (first | exact Ext.refl _ | with_reducible apply Ext.add | with_reducible apply Ext.dr | apply Ext.alloc | apply Ext.ext | apply Ext.drew | refine Ext.trans ?_ (by assumption))))⟩
  · have HB := hid hB
    clear hB
    go_enter Try.func3, Try.ntmps3
    try go_wp2_with (first
        | (go_at_call 10; (with_reducible refine (DrawPlcSide_c _ _ _ _ HB.out hc).mono ?_); rintro e w' ⟨m, k, s, rfl, hm, hk, hs, td, rfl⟩)
        | (
          with_reducible refine wp_region_mix (by kernel_rfl) (by decide +kernel) ?_
          repeat (first
            | (refine mix_pure rfl ?_; (first | go_big_quiet_skip | (go_big_quiet_want; go_big_quiet_op; go_big_quiet_on)); refine wpQuiet_nil ?_)
            | (refine mix_skip (by rfl) ?_; (try simp only [Act.put, List.setIfInBounds_toArray, List.set_cons_zero, List.set_cons_succ]))
            | (refine mix_mk rfl (by rfl) (fun K hK => ?_); (first | (go_simp; first | (go_at_call 10; (with_reducible refine (DrawPlcSide_c _ _ _ _ HB.out hc).mono ?_); rintro e w' ⟨m, k, s, rfl, hm, hk, hs, td, rfl⟩) | skip)); (show K _ _); refine hK _ _ (show Ext _ _ from (by ((try simp only [ext_drew]); (try simp only [ext_ext]); repeat (first | exact Ext.refl _ | with_reducible apply Ext.add | with_reducible apply Ext.dr | apply Ext.alloc | apply Ext.ext | apply Ext.drew | refine Ext.trans ?_ (by assumption))))) ?_; clear hK K; (try simp only [Act.put, List.setIfInBounds_toArray, List.set_cons_zero, List.set_cons_succ])))
          refine mix_nil ?_)
        | (
          with_reducible refine wp_region_ext (by kernel_rfl) (by kernel_rfl) ?_
          repeat (first | go_big_quiet_skip | (go_big_quiet_want; go_big_quiet_op; first | go_big_quiet_on | (apply Exists.intro; refine ⟨fun _ => ?_, ?_⟩; (fail); (try rw [h1]); (try rw [h2]); (try rw [h3]); (try rw [h4]); (try rw [p1]); (try rw [p2]); (try rw [p3]); (try rw [p4]); (try rw [r1]); (try rw [r2]); (try rw [r3]); (try rw [r4]); (try rw [r5]); (try rw [r6]); (try rw [q3]); (try rw [q4]); (try rw [hp]); (try rw [hq]); go_big_quiet_on)))
          refine wpQuiet_nil ?_
          rintro _ ⟨tq, rfl⟩))
    obtain ⟨d, hd⟩ : ∃ d, plcSide m k s = d := ⟨_, rfl⟩
    have hdk : d ≠ -1 → plcSide m d (1 - s) = k := fun h => by rw [← hd] at h ⊢; exact side_back h
    have HD := hid hd
    have HM := hid hm
    cases ok : plcOk m with
    | false =>
      have OK := hid ok
      have hd1 : d = -1 := by rw [← hd]; exact plcSide_bad _ _ ok
      clear hd ok hdk hm
      subst hd1
      try go_wp2_with (first
          | (go_at_call 13; refine (iPlcOk_h m _ _ (by assumption)).mono ?_; rintro e w' ⟨rfl, t, rfl⟩) | (go_at_call 14; refine (sPlcOk_h m _ _ (by assumption)).mono ?_; rintro e w' ⟨rfl, t, rfl⟩) | (go_at_call 11; refine (iPlcSide_h m _ _ _ _ (by assumption)).mono ?_; rintro e w' ⟨rfl, t, rfl⟩) | (go_at_call 12; refine (sPlcSide_h m _ _ _ _ (by assumption)).mono ?_; rintro e w' ⟨rfl, t, rfl⟩) | (go_at_call 15; refine (maOk_c _).mono ?_; rintro e w' ⟨rfl, t, rfl⟩)
          | (
            with_reducible refine wp_region_mix (by kernel_rfl) (by decide +kernel) ?_
            repeat (first
              | (refine mix_pure rfl ?_; (first | go_big_quiet_skip | (go_big_quiet_want; go_big_quiet_op; go_big_quiet_on)); refine wpQuiet_nil ?_)
              | (refine mix_skip (by rfl) ?_; (try simp only [Act.put, List.setIfInBounds_toArray, List.set_cons_zero, List.set_cons_succ]))
              | (refine mix_mk rfl (by rfl) (fun K hK => ?_); (first | (go_simp; first | (go_at_call 13; refine (iPlcOk_h m _ _ (by assumption)).mono ?_; rintro e w' ⟨rfl, t, rfl⟩) | (go_at_call 14; refine (sPlcOk_h m _ _ (by assumption)).mono ?_; rintro e w' ⟨rfl, t, rfl⟩) | (go_at_call 11; refine (iPlcSide_h m _ _ _ _ (by assumption)).mono ?_; rintro e w' ⟨rfl, t, rfl⟩) | (go_at_call 12; refine (sPlcSide_h m _ _ _ _ (by assumption)).mono ?_; rintro e w' ⟨rfl, t, rfl⟩) | (go_at_call 15; refine (maOk_c _).mono ?_; rintro e w' ⟨rfl, t, rfl⟩) | skip)); (show K _ _); refine hK _ _ (show Ext _ _ from (by ((try simp only [ext_drew]); (try simp only [ext_ext]); repeat (first | exact Ext.refl _ | with_reducible apply Ext.add | with_reducible apply Ext.dr | apply Ext.alloc | apply Ext.ext | apply Ext.drew | refine Ext.trans ?_ (by assumption))))) ?_; clear hK K; (try simp only [Act.put, List.setIfInBounds_toArray, List.set_cons_zero, List.set_cons_succ])))
            refine mix_nil ?_)
          | (
            with_reducible refine wp_region_ext (by kernel_rfl) (by kernel_rfl) ?_
            repeat (first | go_big_quiet_skip | (go_big_quiet_want; go_big_quiet_op; first | go_big_quiet_on | (apply Exists.intro; refine ⟨fun _ => ?_, ?_⟩; ((first | (go_at_call 13; first | exact quiet_call (iPlcOk_h m _ _ (by assumption)) | exact quiet_call2 (iPlcOk_h m _ _ (by assumption))) | (go_at_call 14; first | exact quiet_call (sPlcOk_h m _ _ (by assumption)) | exact quiet_call2 (sPlcOk_h m _ _ (by assumption))) | (go_at_call 11; first | exact quiet_call (iPlcSide_h m _ _ _ _ (by assumption)) | exact quiet_call2 (iPlcSide_h m _ _ _ _ (by assumption))) | (go_at_call 12; first | exact quiet_call (sPlcSide_h m _ _ _ _ (by assumption)) | exact quiet_call2 (sPlcSide_h m _ _ _ _ (by assumption))) | (go_at_call 15; first | exact quiet_call (maOk_c _) | exact quiet_call2 (maOk_c _)))); (try rw [h1]); (try rw [h2]); (try rw [h3]); (try rw [h4]); (try rw [p1]); (try rw [p2]); (try rw [p3]); (try rw [p4]); (try rw [r1]); (try rw [r2]); (try rw [r3]); (try rw [r4]); (try rw [r5]); (try rw [r6]); (try rw [q3]); (try rw [q4]); (try rw [hp]); (try rw [hq]); go_big_quiet_on)))
            refine wpQuiet_nil ?_
            rintro _ ⟨tq, rfl⟩))
      go_ret
      exact ⟨rfl, Ext.below (by ((try simp only [ext_drew]); (try simp only [ext_ext]); repeat (first | exact Ext.refl _ | with_reducible apply Ext.add | with_reducible apply Ext.dr | apply Ext.alloc | apply Ext.ext | apply Ext.drew | refine Ext.trans ?_ (by assumption))))⟩
    | true =>
      have OK := hid ok
      obtain ⟨⟨a1, a2⟩, a3, a4⟩ := plcOk_iff.1 ok
      obtain ⟨u1, u2⟩ := mul_bd ok
      clear hd ok hm
      by_cases d1 : d = -1
      · subst d1
        clear hdk
        try go_wp2_with (first
            | (go_at_call 13; refine (iPlcOk_h m _ _ (by assumption)).mono ?_; rintro e w' ⟨rfl, t, rfl⟩) | (go_at_call 14; refine (sPlcOk_h m _ _ (by assumption)).mono ?_; rintro e w' ⟨rfl, t, rfl⟩) | (go_at_call 11; refine (iPlcSide_h m _ _ _ _ (by assumption)).mono ?_; rintro e w' ⟨rfl, t, rfl⟩) | (go_at_call 12; refine (sPlcSide_h m _ _ _ _ (by assumption)).mono ?_; rintro e w' ⟨rfl, t, rfl⟩) | (go_at_call 15; refine (maOk_c _).mono ?_; rintro e w' ⟨rfl, t, rfl⟩)
            | (
              with_reducible refine wp_region_mix (by kernel_rfl) (by decide +kernel) ?_
              repeat (first
                | (refine mix_pure rfl ?_; (first | go_big_quiet_skip | (go_big_quiet_want; go_big_quiet_op; go_big_quiet_on)); refine wpQuiet_nil ?_)
                | (refine mix_skip (by rfl) ?_; (try simp only [Act.put, List.setIfInBounds_toArray, List.set_cons_zero, List.set_cons_succ]))
                | (refine mix_mk rfl (by rfl) (fun K hK => ?_); (first | (go_simp; first | (go_at_call 13; refine (iPlcOk_h m _ _ (by assumption)).mono ?_; rintro e w' ⟨rfl, t, rfl⟩) | (go_at_call 14; refine (sPlcOk_h m _ _ (by assumption)).mono ?_; rintro e w' ⟨rfl, t, rfl⟩) | (go_at_call 11; refine (iPlcSide_h m _ _ _ _ (by assumption)).mono ?_; rintro e w' ⟨rfl, t, rfl⟩) | (go_at_call 12; refine (sPlcSide_h m _ _ _ _ (by assumption)).mono ?_; rintro e w' ⟨rfl, t, rfl⟩) | (go_at_call 15; refine (maOk_c _).mono ?_; rintro e w' ⟨rfl, t, rfl⟩) | skip)); (show K _ _); refine hK _ _ (show Ext _ _ from (by ((try simp only [ext_drew]); (try simp only [ext_ext]); repeat (first | exact Ext.refl _ | with_reducible apply Ext.add | with_reducible apply Ext.dr | apply Ext.alloc | apply Ext.ext | apply Ext.drew | refine Ext.trans ?_ (by assumption))))) ?_; clear hK K; (try simp only [Act.put, List.setIfInBounds_toArray, List.set_cons_zero, List.set_cons_succ])))
              refine mix_nil ?_)
            | (
              with_reducible refine wp_region_ext (by kernel_rfl) (by kernel_rfl) ?_
              repeat (first | go_big_quiet_skip | (go_big_quiet_want; go_big_quiet_op; first | go_big_quiet_on | (apply Exists.intro; refine ⟨fun _ => ?_, ?_⟩; ((first | (go_at_call 13; first | exact quiet_call (iPlcOk_h m _ _ (by assumption)) | exact quiet_call2 (iPlcOk_h m _ _ (by assumption))) | (go_at_call 14; first | exact quiet_call (sPlcOk_h m _ _ (by assumption)) | exact quiet_call2 (sPlcOk_h m _ _ (by assumption))) | (go_at_call 11; first | exact quiet_call (iPlcSide_h m _ _ _ _ (by assumption)) | exact quiet_call2 (iPlcSide_h m _ _ _ _ (by assumption))) | (go_at_call 12; first | exact quiet_call (sPlcSide_h m _ _ _ _ (by assumption)) | exact quiet_call2 (sPlcSide_h m _ _ _ _ (by assumption))) | (go_at_call 15; first | exact quiet_call (maOk_c _) | exact quiet_call2 (maOk_c _)))); (try rw [h1]); (try rw [h2]); (try rw [h3]); (try rw [h4]); (try rw [p1]); (try rw [p2]); (try rw [p3]); (try rw [p4]); (try rw [r1]); (try rw [r2]); (try rw [r3]); (try rw [r4]); (try rw [r5]); (try rw [r6]); (try rw [q3]); (try rw [q4]); (try rw [hp]); (try rw [hq]); go_big_quiet_on)))
              refine wpQuiet_nil ?_
              rintro _ ⟨tq, rfl⟩))
        refine wp_gen fun V hV => ?_
        obtain ⟨M, hM⟩ : ∃ M, W.heap.size + td.bs.size = M := ⟨_, rfl⟩
        have EV : Ext W V := by rw [hV]; ((try simp only [ext_drew]); (try simp only [ext_ext]); repeat (first | exact Ext.refl _ | with_reducible apply Ext.add | with_reducible apply Ext.dr | apply Ext.alloc | apply Ext.ext | apply Ext.drew | refine Ext.trans ?_ (by assumption)))
        have cM0 : V.cell? ⟨M, 0, none⟩ = some (.int .i64 m.c) := by rw [hV, ← hM]; simp [go_sem]
        have cM1 : V.cell? ⟨M, 1, none⟩ = some (.int .i64 m.w) := by rw [hV, ← hM]; simp [go_sem]
        have lM : M < V.heap.size := by rw [hV, ← hM]; ((try simp [go_sem]) <;> (try simp [Xt.add]) <;> omega)
        rw [hM]
        have u3 : m.w ≤ m.c * m.w := by have := Int.mul_le_mul_of_nonneg_right (show 1 ≤ m.c by omega) (show 0 ≤ m.w by omega); omega
        clear hV hM
        go_loopw [7, 8, 9] (fun v i z wr => ∃ (p q : Int), i = .int .i64 p ∧ -1 ≤ p ∧ p ≤ m.c * m.w + 1 ∧ v = .int .i64 q ∧ 0 ≤ q ∧ q ≤ 8 ∧ ((p ≤ 0 ∧ q = 0) ∨ (0 ≤ p ∧ p ≤ m.w ∧ q = p) ∨ (m.w ≤ p ∧ q = m.w)) ∧ Ext V wr) (fun _ i _ _ => (m.c * m.w + 1 - intOf i).toNat)
        case atStart => exact ⟨-1, 0, rfl, by omega, by omega, rfl, by omega, by omega, by omega, (by ((try simp only [ext_drew]); (try simp only [ext_ext]); repeat (first | exact Ext.refl _ | with_reducible apply Ext.add | with_reducible apply Ext.dr | apply Ext.alloc | apply Ext.ext | apply Ext.drew | refine Ext.trans ?_ (by assumption))))⟩
        case round =>
          obtain ⟨p, q, rfl, p0, p1, rfl, q0, q1, hpq, t9, rfl⟩ := hrel
          by_cases hlt : p ≤ m.c * m.w
          · have hz := cell_zero (p := p) OK.out
            by_cases h0 : 0 ≤ p ∧ p < m.w
            · have g := beq_t (hz.2 h0)
              clear hz
              try go_wp2_with (first
                  | (go_at_call 16; refine (iPlcCell_c _ _ _).mono ?_; rintro e w' ⟨rfl, t, rfl⟩) | (go_at_call 17; refine (sPlcCell_c _ _ _).mono ?_; rintro e w' ⟨rfl, t, rfl⟩)
                  | (
                    with_reducible refine wp_region_mix (by kernel_rfl) (by decide +kernel) ?_
                    repeat (first
                      | (refine mix_pure rfl ?_; (first | go_big_quiet_skip | (go_big_quiet_want; go_big_quiet_op; go_big_quiet_on)); refine wpQuiet_nil ?_)
                      | (refine mix_skip (by rfl) ?_; (try simp only [Act.put, List.setIfInBounds_toArray, List.set_cons_zero, List.set_cons_succ]))
                      | (refine mix_mk rfl (by rfl) (fun K hK => ?_); (first | (go_simp; first | (go_at_call 16; refine (iPlcCell_c _ _ _).mono ?_; rintro e w' ⟨rfl, t, rfl⟩) | (go_at_call 17; refine (sPlcCell_c _ _ _).mono ?_; rintro e w' ⟨rfl, t, rfl⟩) | skip)); (show K _ _); refine hK _ _ (show Ext _ _ from (by ((try simp only [ext_drew]); (try simp only [ext_ext]); repeat (first | exact Ext.refl _ | with_reducible apply Ext.add | with_reducible apply Ext.dr | apply Ext.alloc | apply Ext.ext | apply Ext.drew | refine Ext.trans ?_ (by assumption))))) ?_; clear hK K; (try simp only [Act.put, List.setIfInBounds_toArray, List.set_cons_zero, List.set_cons_succ])))
                    refine mix_nil ?_)
                  | (
                    with_reducible refine wp_region_ext (by kernel_rfl) (by kernel_rfl) ?_
                    repeat (first | go_big_quiet_skip | (go_big_quiet_want; go_big_quiet_op; first | go_big_quiet_on | (apply Exists.intro; refine ⟨fun _ => ?_, ?_⟩; ((first | (go_at_call 16; first | exact quiet_call (iPlcCell_c _ _ _) | exact quiet_call2 (iPlcCell_c _ _ _)) | (go_at_call 17; first | exact quiet_call (sPlcCell_c _ _ _) | exact quiet_call2 (sPlcCell_c _ _ _)))); (try rw [h1]); (try rw [h2]); (try rw [h3]); (try rw [h4]); (try rw [p1]); (try rw [p2]); (try rw [p3]); (try rw [p4]); (try rw [r1]); (try rw [r2]); (try rw [r3]); (try rw [r4]); (try rw [r5]); (try rw [r6]); (try rw [q3]); (try rw [q4]); (try rw [hp]); (try rw [hq]); go_big_quiet_on)))
                    refine wpQuiet_nil ?_
                    rintro _ ⟨tq, rfl⟩))
              go_roundw
              case rel => exact ⟨p + 1, q + 1, by go_num, by omega, by omega, by go_num, by omega, by omega, by omega, (by ((try simp only [ext_drew]); (try simp only [ext_ext]); repeat (first | exact Ext.refl _ | with_reducible apply Ext.add | with_reducible apply Ext.dr | apply Ext.alloc | apply Ext.ext | apply Ext.drew | refine Ext.trans ?_ (by assumption))))⟩
              case measure => simp [intOf]; omega
            · have g := beq_f (show plcCell m p ≠ 0 from fun h => h0 (hz.1 h))
              clear hz
              try go_wp2_with (first
                  | (go_at_call 16; refine (iPlcCell_c _ _ _).mono ?_; rintro e w' ⟨rfl, t, rfl⟩) | (go_at_call 17; refine (sPlcCell_c _ _ _).mono ?_; rintro e w' ⟨rfl, t, rfl⟩)
                  | (
                    with_reducible refine wp_region_mix (by kernel_rfl) (by decide +kernel) ?_
                    repeat (first
                      | (refine mix_pure rfl ?_; (first | go_big_quiet_skip | (go_big_quiet_want; go_big_quiet_op; go_big_quiet_on)); refine wpQuiet_nil ?_)
                      | (refine mix_skip (by rfl) ?_; (try simp only [Act.put, List.setIfInBounds_toArray, List.set_cons_zero, List.set_cons_succ]))
                      | (refine mix_mk rfl (by rfl) (fun K hK => ?_); (first | (go_simp; first | (go_at_call 16; refine (iPlcCell_c _ _ _).mono ?_; rintro e w' ⟨rfl, t, rfl⟩) | (go_at_call 17; refine (sPlcCell_c _ _ _).mono ?_; rintro e w' ⟨rfl, t, rfl⟩) | skip)); (show K _ _); refine hK _ _ (show Ext _ _ from (by ((try simp only [ext_drew]); (try simp only [ext_ext]); repeat (first | exact Ext.refl _ | with_reducible apply Ext.add | with_reducible apply Ext.dr | apply Ext.alloc | apply Ext.ext | apply Ext.drew | refine Ext.trans ?_ (by assumption))))) ?_; clear hK K; (try simp only [Act.put, List.setIfInBounds_toArray, List.set_cons_zero, List.set_cons_succ])))
                    refine mix_nil ?_)
                  | (
                    with_reducible refine wp_region_ext (by kernel_rfl) (by kernel_rfl) ?_
                    repeat (first | go_big_quiet_skip | (go_big_quiet_want; go_big_quiet_op; first | go_big_quiet_on | (apply Exists.intro; refine ⟨fun _ => ?_, ?_⟩; ((first | (go_at_call 16; first | exact quiet_call (iPlcCell_c _ _ _) | exact quiet_call2 (iPlcCell_c _ _ _)) | (go_at_call 17; first | exact quiet_call (sPlcCell_c _ _ _) | exact quiet_call2 (sPlcCell_c _ _ _)))); (try rw [h1]); (try rw [h2]); (try rw [h3]); (try rw [h4]); (try rw [p1]); (try rw [p2]); (try rw [p3]); (try rw [p4]); (try rw [r1]); (try rw [r2]); (try rw [r3]); (try rw [r4]); (try rw [r5]); (try rw [r6]); (try rw [q3]); (try rw [q4]); (try rw [hp]); (try rw [hq]); go_big_quiet_on)))
                    refine wpQuiet_nil ?_
                    rintro _ ⟨tq, rfl⟩))
              go_roundw
              case rel => exact ⟨p + 1, q, by go_num, by omega, by omega, rfl, by omega, by omega, by omega, (by ((try simp only [ext_drew]); (try simp only [ext_ext]); repeat (first | exact Ext.refl _ | with_reducible apply Ext.add | with_reducible apply Ext.dr | apply Ext.alloc | apply Ext.ext | apply Ext.drew | refine Ext.trans ?_ (by assumption))))⟩
              case measure => simp [intOf]; omega
          · have hq : q = m.w := by omega
            subst hq
            try go_wp2_with (first
                | fail
                | (
                  with_reducible refine wp_region_mix (by kernel_rfl) (by decide +kernel) ?_
                  repeat (first
                    | (refine mix_pure rfl ?_; (first | go_big_quiet_skip | (go_big_quiet_want; go_big_quiet_op; go_big_quiet_on)); refine wpQuiet_nil ?_)
                    | (refine mix_skip (by rfl) ?_; (try simp only [Act.put, List.setIfInBounds_toArray, List.set_cons_zero, List.set_cons_succ]))
                    | (refine mix_mk rfl (by rfl) (fun K hK => ?_); (first | (go_simp; first | skip)); (show K _ _); refine hK _ _ (show Ext _ _ from (by ((try simp only [ext_drew]); (try simp only [ext_ext]); repeat (first | exact Ext.refl _ | with_reducible apply Ext.add | with_reducible apply Ext.dr | apply Ext.alloc | apply Ext.ext | apply Ext.drew | refine Ext.trans ?_ (by assumption))))) ?_; clear hK K; (try simp only [Act.put, List.setIfInBounds_toArray, List.set_cons_zero, List.set_cons_succ])))
                  refine mix_nil ?_)
                | (
                  with_reducible refine wp_region_ext (by kernel_rfl) (by kernel_rfl) ?_
                  repeat (first | go_big_quiet_skip | (go_big_quiet_want; go_big_quiet_op; first | go_big_quiet_on | (apply Exists.intro; refine ⟨fun _ => ?_, ?_⟩; (fail); (try rw [h1]); (try rw [h2]); (try rw [h3]); (try rw [h4]); (try rw [p1]); (try rw [p2]); (try rw [p3]); (try rw [p4]); (try rw [r1]); (try rw [r2]); (try rw [r3]); (try rw [r4]); (try rw [r5]); (try rw [r6]); (try rw [q3]); (try rw [q4]); (try rw [hp]); (try rw [hq]); go_big_quiet_on)))
                  refine wpQuiet_nil ?_
                  rintro _ ⟨tq, rfl⟩))
            go_ret
            exact ⟨rfl, Ext.below (EV.trans (by ((try simp only [ext_drew]); (try simp only [ext_ext]); repeat (first | exact Ext.refl _ | with_reducible apply Ext.add | with_reducible apply Ext.dr | apply Ext.alloc | apply Ext.ext | apply Ext.drew | refine Ext.trans ?_ (by assumption)))))⟩
      · have HK := hid (hdk d1)
        have g1 : (d != -1) = true := bne_t d1
        clear hdk d1
        try go_wp2_with (first
            | (go_at_call 13; refine (iPlcOk_h m _ _ (by assumption)).mono ?_; rintro e w' ⟨rfl, t, rfl⟩) | (go_at_call 14; refine (sPlcOk_h m _ _ (by assumption)).mono ?_; rintro e w' ⟨rfl, t, rfl⟩) | (go_at_call 11; refine (iPlcSide_h m _ _ _ _ (by assumption)).mono ?_; rintro e w' ⟨rfl, t, rfl⟩) | (go_at_call 12; refine (sPlcSide_h m _ _ _ _ (by assumption)).mono ?_; rintro e w' ⟨rfl, t, rfl⟩) | (go_at_call 15; refine (maOk_c _).mono ?_; rintro e w' ⟨rfl, t, rfl⟩)
            | (
              with_reducible refine wp_region_mix (by kernel_rfl) (by decide +kernel) ?_
              repeat (first
                | (refine mix_pure rfl ?_; (first | go_big_quiet_skip | (go_big_quiet_want; go_big_quiet_op; go_big_quiet_on)); refine wpQuiet_nil ?_)
                | (refine mix_skip (by rfl) ?_; (try simp only [Act.put, List.setIfInBounds_toArray, List.set_cons_zero, List.set_cons_succ]))
                | (refine mix_mk rfl (by rfl) (fun K hK => ?_); (first | (go_simp; first | (go_at_call 13; refine (iPlcOk_h m _ _ (by assumption)).mono ?_; rintro e w' ⟨rfl, t, rfl⟩) | (go_at_call 14; refine (sPlcOk_h m _ _ (by assumption)).mono ?_; rintro e w' ⟨rfl, t, rfl⟩) | (go_at_call 11; refine (iPlcSide_h m _ _ _ _ (by assumption)).mono ?_; rintro e w' ⟨rfl, t, rfl⟩) | (go_at_call 12; refine (sPlcSide_h m _ _ _ _ (by assumption)).mono ?_; rintro e w' ⟨rfl, t, rfl⟩) | (go_at_call 15; refine (maOk_c _).mono ?_; rintro e w' ⟨rfl, t, rfl⟩) | skip)); (show K _ _); refine hK _ _ (show Ext _ _ from (by ((try simp only [ext_drew]); (try simp only [ext_ext]); repeat (first | exact Ext.refl _ | with_reducible apply Ext.add | with_reducible apply Ext.dr | apply Ext.alloc | apply Ext.ext | apply Ext.drew | refine Ext.trans ?_ (by assumption))))) ?_; clear hK K; (try simp only [Act.put, List.setIfInBounds_toArray, List.set_cons_zero, List.set_cons_succ])))
              refine mix_nil ?_)
            | (
              with_reducible refine wp_region_ext (by kernel_rfl) (by kernel_rfl) ?_
              repeat (first | go_big_quiet_skip | (go_big_quiet_want; go_big_quiet_op; first | go_big_quiet_on | (apply Exists.intro; refine ⟨fun _ => ?_, ?_⟩; ((first | (go_at_call 13; first | exact quiet_call (iPlcOk_h m _ _ (by assumption)) | exact quiet_call2 (iPlcOk_h m _ _ (by assumption))) | (go_at_call 14; first | exact quiet_call (sPlcOk_h m _ _ (by assumption)) | exact quiet_call2 (sPlcOk_h m _ _ (by assumption))) | (go_at_call 11; first | exact quiet_call (iPlcSide_h m _ _ _ _ (by assumption)) | exact quiet_call2 (iPlcSide_h m _ _ _ _ (by assumption))) | (go_at_call 12; first | exact quiet_call (sPlcSide_h m _ _ _ _ (by assumption)) | exact quiet_call2 (sPlcSide_h m _ _ _ _ (by assumption))) | (go_at_call 15; first | exact quiet_call (maOk_c _) | exact quiet_call2 (maOk_c _)))); (try rw [h1]); (try rw [h2]); (try rw [h3]); (try rw [h4]); (try rw [p1]); (try rw [p2]); (try rw [p3]); (try rw [p4]); (try rw [r1]); (try rw [r2]); (try rw [r3]); (try rw [r4]); (try rw [r5]); (try rw [r6]); (try rw [q3]); (try rw [q4]); (try rw [hp]); (try rw [hq]); go_big_quiet_on)))
              refine wpQuiet_nil ?_
              rintro _ ⟨tq, rfl⟩))
        refine wp_gen fun V hV => ?_
        obtain ⟨M, hM⟩ : ∃ M, W.heap.size + td.bs.size = M := ⟨_, rfl⟩
        have EV : Ext W V := by rw [hV]; ((try simp only [ext_drew]); (try simp only [ext_ext]); repeat (first | exact Ext.refl _ | with_reducible apply Ext.add | with_reducible apply Ext.dr | apply Ext.alloc | apply Ext.ext | apply Ext.drew | refine Ext.trans ?_ (by assumption)))
        have cM0 : V.cell? ⟨M, 0, none⟩ = some (.int .i64 m.c) := by rw [hV, ← hM]; simp [go_sem]
        have cM1 : V.cell? ⟨M, 1, none⟩ = some (.int .i64 m.w) := by rw [hV, ← hM]; simp [go_sem]
        have lM : M < V.heap.size := by rw [hV, ← hM]; ((try simp [go_sem]) <;> (try simp [Xt.add]) <;> omega)
        rw [hM]
        have u3 : m.w ≤ m.c * m.w := by have := Int.mul_le_mul_of_nonneg_right (show 1 ≤ m.c by omega) (show 0 ≤ m.w by omega); omega
        clear hV hM
        go_loopw [7, 8, 9] (fun v i z wr => ∃ (p q : Int), i = .int .i64 p ∧ -1 ≤ p ∧ p ≤ m.c * m.w + 1 ∧ v = .int .i64 q ∧ 0 ≤ q ∧ q ≤ 8 ∧ ((p ≤ 0 ∧ q = 0) ∨ (0 ≤ p ∧ p ≤ m.w ∧ q = p) ∨ (m.w ≤ p ∧ q = m.w)) ∧ Ext V wr) (fun _ i _ _ => (m.c * m.w + 1 - intOf i).toNat)
        case atStart => exact ⟨-1, 0, rfl, by omega, by omega, rfl, by omega, by omega, by omega, (by ((try simp only [ext_drew]); (try simp only [ext_ext]); repeat (first | exact Ext.refl _ | with_reducible apply Ext.add | with_reducible apply Ext.dr | apply Ext.alloc | apply Ext.ext | apply Ext.drew | refine Ext.trans ?_ (by assumption))))⟩
        case round =>
          obtain ⟨p, q, rfl, p0, p1, rfl, q0, q1, hpq, t9, rfl⟩ := hrel
          by_cases hlt : p ≤ m.c * m.w
          · have hz := cell_zero (p := p) OK.out
            by_cases h0 : 0 ≤ p ∧ p < m.w
            · have g := beq_t (hz.2 h0)
              clear hz
              try go_wp2_with (first
                  | (go_at_call 16; refine (iPlcCell_c _ _ _).mono ?_; rintro e w' ⟨rfl, t, rfl⟩) | (go_at_call 17; refine (sPlcCell_c _ _ _).mono ?_; rintro e w' ⟨rfl, t, rfl⟩)
                  | (
                    with_reducible refine wp_region_mix (by kernel_rfl) (by decide +kernel) ?_
                    repeat (first
                      | (refine mix_pure rfl ?_; (first | go_big_quiet_skip | (go_big_quiet_want; go_big_quiet_op; go_big_quiet_on)); refine wpQuiet_nil ?_)
                      | (refine mix_skip (by rfl) ?_; (try simp only [Act.put, List.setIfInBounds_toArray, List.set_cons_zero, List.set_cons_succ]))
                      | (refine mix_mk rfl (by rfl) (fun K hK => ?_); (first | (go_simp; first | (go_at_call 16; refine (iPlcCell_c _ _ _).mono ?_; rintro e w' ⟨rfl, t, rfl⟩) | (go_at_call 17; refine (sPlcCell_c _ _ _).mono ?_; rintro e w' ⟨rfl, t, rfl⟩) | skip)); (show K _ _); refine hK _ _ (show Ext _ _ from (by ((try simp only [ext_drew]); (try simp only [ext_ext]); repeat (first | exact Ext.refl _ | with_reducible apply Ext.add | with_reducible apply Ext.dr | apply Ext.alloc | apply Ext.ext | apply Ext.drew | refine Ext.trans ?_ (by assumption))))) ?_; clear hK K; (try simp only [Act.put, List.setIfInBounds_toArray, List.set_cons_zero, List.set_cons_succ])))
                    refine mix_nil ?_)
                  | (
                    with_reducible refine wp_region_ext (by kernel_rfl) (by kernel_rfl) ?_
                    repeat (first | go_big_quiet_skip | (go_big_quiet_want; go_big_quiet_op; first | go_big_quiet_on | (apply Exists.intro; refine ⟨fun _ => ?_, ?_⟩; ((first | (go_at_call 16; first | exact quiet_call (iPlcCell_c _ _ _) | exact quiet_call2 (iPlcCell_c _ _ _)) | (go_at_call 17; first | exact quiet_call (sPlcCell_c _ _ _) | exact quiet_call2 (sPlcCell_c _ _ _)))); (try rw [h1]); (try rw [h2]); (try rw [h3]); (try rw [h4]); (try rw [p1]); (try rw [p2]); (try rw [p3]); (try rw [p4]); (try rw [r1]); (try rw [r2]); (try rw [r3]); (try rw [r4]); (try rw [r5]); (try rw [r6]); (try rw [q3]); (try rw [q4]); (try rw [hp]); (try rw [hq]); go_big_quiet_on)))
                    refine wpQuiet_nil ?_
                    rintro _ ⟨tq, rfl⟩))
              go_roundw
              case rel => exact ⟨p + 1, q + 1, by go_num, by omega, by omega, by go_num, by omega, by omega, by omega, (by ((try simp only [ext_drew]); (try simp only [ext_ext]); repeat (first | exact Ext.refl _ | with_reducible apply Ext.add | with_reducible apply Ext.dr | apply Ext.alloc | apply Ext.ext | apply Ext.drew | refine Ext.trans ?_ (by assumption))))⟩
              case measure => simp [intOf]; omega
            · have g := beq_f (show plcCell m p ≠ 0 from fun h => h0 (hz.1 h))
              clear hz
              try go_wp2_with (first
                  | (go_at_call 16; refine (iPlcCell_c _ _ _).mono ?_; rintro e w' ⟨rfl, t, rfl⟩) | (go_at_call 17; refine (sPlcCell_c _ _ _).mono ?_; rintro e w' ⟨rfl, t, rfl⟩)
                  | (
                    with_reducible refine wp_region_mix (by kernel_rfl) (by decide +kernel) ?_
                    repeat (first
                      | (refine mix_pure rfl ?_; (first | go_big_quiet_skip | (go_big_quiet_want; go_big_quiet_op; go_big_quiet_on)); refine wpQuiet_nil ?_)
                      | (refine mix_skip (by rfl) ?_; (try simp only [Act.put, List.setIfInBounds_toArray, List.set_cons_zero, List.set_cons_succ]))
                      | (refine mix_mk rfl (by rfl) (fun K hK => ?_); (first | (go_simp; first | (go_at_call 16; refine (iPlcCell_c _ _ _).mono ?_; rintro e w' ⟨rfl, t, rfl⟩) | (go_at_call 17; refine (sPlcCell_c _ _ _).mono ?_; rintro e w' ⟨rfl, t, rfl⟩) | skip)); (show K _ _); refine hK _ _ (show Ext _ _ from (by ((try simp only [ext_drew]); (try simp only [ext_ext]); repeat (first | exact Ext.refl _ | with_reducible apply Ext.add | with_reducible apply Ext.dr | apply Ext.alloc | apply Ext.ext | apply Ext.drew | refine Ext.trans ?_ (by assumption))))) ?_; clear hK K; (try simp only [Act.put, List.setIfInBounds_toArray, List.set_cons_zero, List.set_cons_succ])))
                    refine mix_nil ?_)
                  | (
                    with_reducible refine wp_region_ext (by kernel_rfl) (by kernel_rfl) ?_
                    repeat (first | go_big_quiet_skip | (go_big_quiet_want; go_big_quiet_op; first | go_big_quiet_on | (apply Exists.intro; refine ⟨fun _ => ?_, ?_⟩; ((first | (go_at_call 16; first | exact quiet_call (iPlcCell_c _ _ _) | exact quiet_call2 (iPlcCell_c _ _ _)) | (go_at_call 17; first | exact quiet_call (sPlcCell_c _ _ _) | exact quiet_call2 (sPlcCell_c _ _ _)))); (try rw [h1]); (try rw [h2]); (try rw [h3]); (try rw [h4]); (try rw [p1]); (try rw [p2]); (try rw [p3]); (try rw [p4]); (try rw [r1]); (try rw [r2]); (try rw [r3]); (try rw [r4]); (try rw [r5]); (try rw [r6]); (try rw [q3]); (try rw [q4]); (try rw [hp]); (try rw [hq]); go_big_quiet_on)))
                    refine wpQuiet_nil ?_
                    rintro _ ⟨tq, rfl⟩))
              go_roundw
              case rel => exact ⟨p + 1, q, by go_num, by omega, by omega, rfl, by omega, by omega, by omega, (by ((try simp only [ext_drew]); (try simp only [ext_ext]); repeat (first | exact Ext.refl _ | with_reducible apply Ext.add | with_reducible apply Ext.dr | apply Ext.alloc | apply Ext.ext | apply Ext.drew | refine Ext.trans ?_ (by assumption))))⟩
              case measure => simp [intOf]; omega
          · have hq : q = m.w := by omega
            subst hq
            try go_wp2_with (first
                | fail
                | (
                  with_reducible refine wp_region_mix (by kernel_rfl) (by decide +kernel) ?_
                  repeat (first
                    | (refine mix_pure rfl ?_; (first | go_big_quiet_skip | (go_big_quiet_want; go_big_quiet_op; go_big_quiet_on)); refine wpQuiet_nil ?_)
                    | (refine mix_skip (by rfl) ?_; (try simp only [Act.put, List.setIfInBounds_toArray, List.set_cons_zero, List.set_cons_succ]))
                    | (refine mix_mk rfl (by rfl) (fun K hK => ?_); (first | (go_simp; first | skip)); (show K _ _); refine hK _ _ (show Ext _ _ from (by ((try simp only [ext_drew]); (try simp only [ext_ext]); repeat (first | exact Ext.refl _ | with_reducible apply Ext.add | with_reducible apply Ext.dr | apply Ext.alloc | apply Ext.ext | apply Ext.drew | refine Ext.trans ?_ (by assumption))))) ?_; clear hK K; (try simp only [Act.put, List.setIfInBounds_toArray, List.set_cons_zero, List.set_cons_succ])))
                  refine mix_nil ?_)
                | (
                  with_reducible refine wp_region_ext (by kernel_rfl) (by kernel_rfl) ?_
                  repeat (first | go_big_quiet_skip | (go_big_quiet_want; go_big_quiet_op; first | go_big_quiet_on | (apply Exists.intro; refine ⟨fun _ => ?_, ?_⟩; (fail); (try rw [h1]); (try rw [h2]); (try rw [h3]); (try rw [h4]); (try rw [p1]); (try rw [p2]); (try rw [p3]); (try rw [p4]); (try rw [r1]); (try rw [r2]); (try rw [r3]); (try rw [r4]); (try rw [r5]); (try rw [r6]); (try rw [q3]); (try rw [q4]); (try rw [hp]); (try rw [hq]); go_big_quiet_on)))
                  refine wpQuiet_nil ?_
                  rintro _ ⟨tq, rfl⟩))
            go_ret
            exact ⟨rfl, Ext.below (EV.trans (by ((try simp only [ext_drew]); (try simp only [ext_ext]); repeat (first | exact Ext.refl _ | with_reducible apply Ext.add | with_reducible apply Ext.dr | apply Ext.alloc | apply Ext.ext | apply Ext.drew | refine Ext.trans ?_ (by assumption)))))⟩

set_option maxRecDepth 100000 in
theorem fnPlcSides_lifted (os : Os) (started : os.Started) (H : Type) (enc : TypeId × Value → H) :
    ReturnsInHanded {} Try.checked os 3 .any (Rows.fnPlcSidesSpec.pre6 enc Try.prog Try.f3 Rows.fnPlcSidesRow.domain false) (Rows.fnPlcSidesSpec.post enc Try.prog Try.f3 false true false false) := by
  refine returnsInHanded_of_change (C := Try.checked) own_knob started (by kernel_rfl) Try.func3
    (ChangeSpec.witness6 (enc := enc) (C := Try.checked) false ⟨#[], #[.slice none 0 0], []⟩ 8 (by kernel_rfl) (by kernel_rfl) (by kernel_rfl) (by kernel_rfl)) ?_
  intro W base args ds gs before hval0 hW _ _
  have hval : ∀ (j : Nat) t v, Try.f3.params[j]? = some t → args[j]? = some v → Value.okWide Try.prog W .any base t v := hval0
  have hfin : ∀ W', Below W.heap.size W W' → Rows.fnPlcSidesSpec.post enc Try.prog Try.f3 false true false false W args (.bool true) W' := fun W' hb =>
    law_post laid_out rfl bool_ty rfl (by kernel_rfl) hW (fun ds h => by match ds, h with | [_], _ => rfl) hb
  suffices hwalk : Calls Try.prog 3 args W fun e W' => e = .returned (.bool true) ∧ Below W.heap.size W W' by
    refine hwalk.mono fun e W' ⟨he, hb⟩ => ?_
    subst he
    exact ⟨_, rfl, hfin W' hb⟩
  clear hfin
  obtain ⟨p, q, hA0, hV, _, hfz, hnd⟩ := hW
  have hA : DataW.TrodAll enc Try.prog W 0 (fun _ => true) true Try.f3.params.toList args.toList ds p := hA0
  clear hA0 hval0 hV hfz hnd
  rw [Try.params3] at hA hval
  obtain ⟨v0, vs0, d0, ds0, p0, q0, hargs0, _, _, h0, r0⟩ := trodAll_cons hA
  obtain ⟨hnil, _, _⟩ := trodAll_nil r0
  obtain rfl : args = #[v0] := by cases args; simp_all
  clear hargs0 hnil
  obtain ⟨code_a, code_n, code_c, rfl⟩ := okWide_slice Try.underlying22 (hval 0 22 v0 rfl rfl)
  obtain ⟨hb0, hd0⟩ := open_bytes h0
  exact fnPlcSides_walk W code_a code_n code_c hb0 hd0

theorem fnPlcSides_holds : Rows.FnPlcSidesSaid :=
  OpenClaim.holds_of_wide 3 Try.f3 rfl rfl rfl rfl rfl rfl rfl ⟨rfl, rfl, rfl, rfl, rfl⟩ rfl rfl rfl rfl rfl (by kernel_rfl) Try.func3 (by kernel_rfl)
    (of_decide_eq_true (by kernel_rfl)) (by unfold Func.isWrapper; rw [if_neg (by decide +kernel)]; exact ⟨rfl, rfl⟩)
    (fun os started H enc _ => fnPlcSides_lifted os started H enc)


end Go.Proofs.Ytbbpipbemhggdaa
