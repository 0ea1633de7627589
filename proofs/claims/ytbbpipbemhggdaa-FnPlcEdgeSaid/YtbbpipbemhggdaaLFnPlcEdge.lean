/- FnPlcEdge: behind an edge lies the next cell; for all codes. -/
import Derived.Test.YtbbpipbemhggdaaDrawP
import Derived.Test.YtbbpipbemhggdaaMa
import Derived.Test.YtbbpipbemhggdaaTo
namespace Go.Proofs.Ytbbpipbemhggdaa
open Go.ChangeShapes Go.WideShapes Go.ChangeAt Go.RowKit
set_option linter.unusedSimpArgs false
set_option linter.unusedVariables false

/-- One step from a place leads into its cell, or into the cell beside, or nowhere. -/
theorem step_to2 {m : Mp} {p : Int} {s : Nat} (ok : plcOk m = true) (hs : s < 2) (hp : plcCell m p ≠ -1) (ht : plcCell m (p + (2 * (s : Int) - 1)) ≠ -1) (hne : plcCell m (p + (2 * (s : Int) - 1)) ≠ plcCell m p) : plcSide m (plcCell m p) s = plcCell m (p + (2 * (s : Int) - 1)) ∧ plcSide m (plcCell m p) s ≠ -1 := by
  obtain ⟨_, p0, p1, pe, c0, c1⟩ := plcCell_ne hp
  obtain ⟨_, q0, q1, qe, d0, d1⟩ := plcCell_ne ht
  obtain ⟨l1, l2⟩ := plcCell_eq ok hp
  obtain ⟨r1, r2⟩ := plcCell_eq ok ht
  generalize hc : plcCell m p = a at *
  generalize hd : plcCell m (p + (2 * (s : Int) - 1)) = b at *
  obtain ⟨⟨m1, m2⟩, w1, w2⟩ := plcOk_iff.1 ok
  have hw : 0 < m.w := by omega
  have hab : b = a + (2 * (s : Int) - 1) := by
    have hs' : s = 0 ∨ s = 1 := by omega
    rcases hs' with rfl | rfl
    · have h1 : b * m.w ≤ a * m.w + m.w - 2 := by simp at r1 ⊢; omega
      have h2 : a * m.w < b * m.w + m.w + 1 := by simp at r2 ⊢; omega
      have e1 : b < a + 1 := by
        rcases (show b < (a + 1) ∨ (a + 1) ≤ b by omega) with h | h
        · exact h
        · have := Int.mul_le_mul_of_nonneg_right h (Int.le_of_lt hw)
          rw [Int.add_mul, Int.one_mul] at this; omega
      have e2 : a - 1 ≤ b := by
        rcases (show b < (a - 1) ∨ (a - 1) ≤ b by omega) with h | h
        · have h' : b + 1 ≤ a - 1 := by omega
          have := Int.mul_le_mul_of_nonneg_right h' (Int.le_of_lt hw)
          rw [Int.add_mul, Int.sub_mul, Int.one_mul] at this; omega
        · exact h
      simp; omega
    · have h1 : b * m.w ≤ a * m.w + m.w := by simp at r1 ⊢; omega
      have h2 : a * m.w + 1 < b * m.w + m.w := by simp at r2 ⊢; omega
      have e1 : b < a + 2 := by
        rcases (show b < (a + 2) ∨ (a + 2) ≤ b by omega) with h | h
        · exact h
        · have := Int.mul_le_mul_of_nonneg_right h (Int.le_of_lt hw)
          rw [Int.add_mul] at this; omega
      have e2 : a ≤ b := by
        rcases (show b < a ∨ a ≤ b by omega) with h | h
        · have h' : b + 1 ≤ a := by omega
          have := Int.mul_le_mul_of_nonneg_right h' (Int.le_of_lt hw)
          rw [Int.add_mul, Int.one_mul] at this; omega
        · exact h
      simp; omega
  have e : plcSide m a s = a + (2 * (s : Int) - 1) := plcSide_in ok (inB_iff.2 ⟨c0, c1⟩) (inB_iff.2 ⟨by omega, by omega⟩) (inB_iff.2 ⟨by omega, by omega⟩)
  exact ⟨by rw [e, hab], by rw [e]; omega⟩
/-- What a step over an edge comes to. -/
theorem edge_fact (m : Mp) (p s : Int) : (plcEdge m p s = false ∧ ¬ ((s = 0 ∨ s = 1) ∧ plcCell m p ≠ -1 ∧ plcCell m (p + 2 * s - 1) ≠ -1 ∧ plcCell m (p + 2 * s - 1) ≠ plcCell m p)) ∨
    (plcEdge m p s = true ∧ (s = 0 ∨ s = 1) ∧ plcCell m p ≠ -1 ∧ plcCell m (p + 2 * s - 1) ≠ -1 ∧ plcCell m (p + 2 * s - 1) ≠ plcCell m p ∧ plcSide m (plcCell m p) s = plcCell m (p + 2 * s - 1)) := by
  have e0 : p + (2 * s - 1) = p + 2 * s - 1 := by omega
  by_cases h : (s = 0 ∨ s = 1) ∧ plcCell m p ≠ -1 ∧ plcCell m (p + 2 * s - 1) ≠ -1 ∧ plcCell m (p + 2 * s - 1) ≠ plcCell m p
  · refine .inr ?_
    obtain ⟨h1, h2, h3, h4⟩ := h
    have ok := (plcCell_ne h2).1
    have key : plcSide m (plcCell m p) s = plcCell m (p + (2 * s - 1)) ∧ plcSide m (plcCell m p) s ≠ -1 := by
      obtain ⟨k, hk, rfl⟩ : ∃ k : Nat, k < 2 ∧ s = k := ⟨s.toNat, by omega, by omega⟩
      exact step_to2 ok hk h2 (by rw [e0]; exact h3) (by rw [e0]; exact h4)
    rw [e0] at key
    exact ⟨by rw [plcEdge_3 h2 key.2, e0]; exact bne_t h4, h1, h2, h3, h4, key.1⟩
  · refine .inl ⟨?_, h⟩
    cases hE : plcEdge m p s with
    | false => rfl
    | true =>
      exfalso; apply h
      simp only [plcEdge, Bool.and_eq_true, bne_iff_ne, ne_eq] at hE
      obtain ⟨⟨h2, h3⟩, h4⟩ := hE
      rw [e0] at h4
      obtain ⟨ok, c0, c1, s0, s1, _, d0, d1⟩ := plcSide_ne h3
      obtain ⟨_, p0, p1, _⟩ := plcCell_ne h2
      obtain ⟨l1, l2⟩ := plcCell_eq ok h2
      obtain ⟨⟨a1, a2⟩, a3, a4⟩ := plcOk_iff.1 ok
      have hs : s = 0 ∨ s = 1 := by omega
      refine ⟨hs, h2, ?_, h4⟩
      generalize hc : plcCell m p = c at *
      intro h5
      have hin : inB (p + 2 * s - 1) 0 (m.c * m.w - 1) = true := by
        apply inB_iff.2
        have g1 : (c + (2 * s - 1) + 1) * m.w ≤ m.c * m.w := Int.mul_le_mul_of_nonneg_right (by omega) (by omega)
        have g0 : 0 ≤ (c + (2 * s - 1)) * m.w := Int.mul_nonneg d0 (by omega)
        rcases hs with rfl | rfl
        · have e1 : (c + (2 * 0 - 1)) * m.w = c * m.w - m.w := by rw [show c + (2 * 0 - 1) = c - 1 by omega, Int.sub_mul, Int.one_mul]
          omega
        · have e1 : (c + (2 * 1 - 1) + 1) * m.w = c * m.w + 2 * m.w := by rw [show c + (2 * 1 - 1) + 1 = c + 2 by omega, Int.add_mul]
          omega
      rw [plcCell_in ok hin] at h5
      have := Int.ediv_nonneg (inB_iff.1 hin).1 (show 0 ≤ m.w by omega)
      omega
theorem plcCell_h (m : Mp) (p b : Int) (w : World) (h : Hid (plcCell m p = b)) : Calls Try.prog 16 #[.agg #[.int .i64 m.c, .int .i64 m.w], .int .i64 p] w fun e w' => e = .returned (.int .i64 b) ∧ Ext w w' := h.out ▸ iPlcCell_c m p w
theorem iPlcEdge_h (m : Mp) (p s : Int) (b : Bool) (w : World) (h : Hid (plcEdge m p s = b)) : Calls Try.prog 19 #[.agg #[.int .i64 m.c, .int .i64 m.w], .int .i64 p, .int .i64 s] w fun e w' => e = .returned (.bool b) ∧ Ext w w' := h.out ▸ iPlcEdge_c m p s w
theorem sPlcEdge_h (m : Mp) (p s : Int) (b : Bool) (w : World) (h : Hid (plcEdge m p s = b)) : Calls Try.prog 20 #[.agg #[.int .i64 m.c, .int .i64 m.w], .int .i64 p, .int .i64 s] w fun e w' => e = .returned (.bool b) ∧ Ext w w' := h.out ▸ sPlcEdge_c m p s w
theorem iPlcSide_h (m : Mp) (c s b : Int) (w : World) (h : Hid (plcSide m c s = b)) : Calls Try.prog 11 #[.agg #[.int .i64 m.c, .int .i64 m.w], .int .i64 c, .int .i64 s] w fun e w' => e = .returned (.int .i64 b) ∧ Ext w w' := h.out ▸ iPlcSide_c m c s w
set_option maxRecDepth 100000 in
set_option maxHeartbeats 4000000 in
theorem fnPlcEdge_walk (W : World) (a : Option Addr) (n c : Nat) (hc : n ≤ c) (hB : Bytes W.heap.size W a n) :
    Calls Try.prog 4 #[.slice a n c] W fun e W' => e = .returned (.bool true) ∧ Below W.heap.size W W' := by
  by_cases hn : (1048576 : Int) < n
  · clear hB
    go_enter Try.func4, Try.ntmps4
    try go_wp2_with (first
        | fail
        | (
          with_reducible refine wp_region_mix (by kernel_rfl) (by decide +kernel) ?_
          repeat (first
            | (refine mix_pure rfl ?_; (first | go_big_quiet_skip | (go_big_quiet_want; go_big_quiet_op; go_big_quiet_on)); refine wpQuiet_nil ?_)
            | (refine mix_skip (by rfl) ?_; (try simp only [Act.put, List.setIfInBounds_toArray, List.set_cons_zero, List.set_cons_succ]))
            | (refine mix_mk rfl (by rfl) (fun K hK => ?_); (first | (go_simp; first | skip)); (show K _ _); refine hK _ _ (show Ext _ _ from (by ((try simp only [ext_drew]); (try simp only [ext_ext]); repeat (first | exact Ext.refl _ | with_reducible apply Ext.add | with_reducible apply Ext.dr | apply Ext.alloc | apply Ext.ext | apply Ext.drew | refine Ext.trans ?_ (by assumption))))) ?_; clear hK K; (try simp only [Act.put, List.setIfInBounds_toArray, List.set_cons_zero, List.set_cons_succ])))
          refine mix_nil ?_)
        | (
          with_reducible refine wp_region_ext (by kernel_rfl) (by kernel_rfl) ?_
          repeat (first | go_big_quiet_skip | (go_big_quiet_want; go_big_quiet_op; first | go_big_quiet_on | (apply Exists.intro; refine ⟨fun _ => ?_, ?_⟩; (fail); (try rw [h1]); (try rw [h2]); (try rw [h3]); (try rw [h4]); (try rw [p1]); (try rw [p2]); (try rw [p3]); (try rw [p4]); (try rw [r1]); (try rw [r2]); (try rw [r3]); (try rw [r4]); (try rw [r5]); (try rw [r6]); (try rw [q3]); (try rw [q4]); (try rw [hp]); (try rw [hq]); go_big_quiet_on)))
          refine wpQuiet_nil ?_
          rintro _ ⟨tq, rfl⟩))
    go_ret
    exact ⟨rfl, Ext.below (by ((try simp only [ext_drew]); (try simp only [ext_ext]); repeat (first | exact Ext.refl _ | with_reducible apply Ext.add | with_reducible apply Ext.dr | apply Ext.alloc | apply Ext.ext | apply Ext.drew | refine Ext.trans ?_ (by assumption))))⟩
  · have HB := hid hB
    clear hB
    go_enter Try.func4, Try.ntmps4
    try go_wp2_with (first
        | (go_at_call 18; (with_reducible refine (DrawPlcEdge_c _ _ _ _ HB.out hc).mono ?_); rintro e w' ⟨m, k, s, rfl, hm, hk, hs, t, rfl⟩)
        | (
          with_reducible refine wp_region_mix (by kernel_rfl) (by decide +kernel) ?_
          repeat (first
            | (refine mix_pure rfl ?_; (first | go_big_quiet_skip | (go_big_quiet_want; go_big_quiet_op; go_big_quiet_on)); refine wpQuiet_nil ?_)
            | (refine mix_skip (by rfl) ?_; (try simp only [Act.put, List.setIfInBounds_toArray, List.set_cons_zero, List.set_cons_succ]))
            | (refine mix_mk rfl (by rfl) (fun K hK => ?_); (first | (go_simp; first | (go_at_call 18; (with_reducible refine (DrawPlcEdge_c _ _ _ _ HB.out hc).mono ?_); rintro e w' ⟨m, k, s, rfl, hm, hk, hs, t, rfl⟩) | skip)); (show K _ _); refine hK _ _ (show Ext _ _ from (by ((try simp only [ext_drew]); (try simp only [ext_ext]); repeat (first | exact Ext.refl _ | with_reducible apply Ext.add | with_reducible apply Ext.dr | apply Ext.alloc | apply Ext.ext | apply Ext.drew | refine Ext.trans ?_ (by assumption))))) ?_; clear hK K; (try simp only [Act.put, List.setIfInBounds_toArray, List.set_cons_zero, List.set_cons_succ])))
          refine mix_nil ?_)
        | (
          with_reducible refine wp_region_ext (by kernel_rfl) (by kernel_rfl) ?_
          repeat (first | go_big_quiet_skip | (go_big_quiet_want; go_big_quiet_op; first | go_big_quiet_on | (apply Exists.intro; refine ⟨fun _ => ?_, ?_⟩; (fail); (try rw [h1]); (try rw [h2]); (try rw [h3]); (try rw [h4]); (try rw [p1]); (try rw [p2]); (try rw [p3]); (try rw [p4]); (try rw [r1]); (try rw [r2]); (try rw [r3]); (try rw [r4]); (try rw [r5]); (try rw [r6]); (try rw [q3]); (try rw [q4]); (try rw [hp]); (try rw [hq]); go_big_quiet_on)))
          refine wpQuiet_nil ?_
          rintro _ ⟨tq, rfl⟩))
    obtain ⟨b, hb⟩ : ∃ b, plcCell m k = b := ⟨_, rfl⟩
    obtain ⟨d, hd⟩ : ∃ d, plcCell m (k + 2 * s - 1) = d := ⟨_, rfl⟩
    have h0 := edge_fact m k s
    rw [hb, hd] at h0
    have hb0 := plcCell_lo m k
    have hd0 := plcCell_lo m (k + 2 * s - 1)
    rw [hb] at hb0
    rw [hd] at hd0
    have HB1 := hid hb
    have HD1 := hid hd
    clear hb hd hm
    rcases h0 with ⟨h1, h2⟩ | ⟨h1, h2, h3, h4, h5, h6⟩
    · have HE := hid h1
      clear h1
      by_cases q1 : s = 0 ∨ s = 1
      · by_cases q2 : b = -1
        · subst q2
          clear h2
          rcases q1 with q0 | q0
          ·
            have g0 : (s == 0) = true := beq_t q0
            clear q0
            try go_wp2_with (first
                | (go_at_call 16; refine (plcCell_h m _ _ _ (by assumption)).mono ?_; rintro e w' ⟨rfl, t, rfl⟩) | (go_at_call 19; refine (iPlcEdge_h m _ _ _ _ (by assumption)).mono ?_; rintro e w' ⟨rfl, t, rfl⟩) | (go_at_call 20; refine (sPlcEdge_h m _ _ _ _ (by assumption)).mono ?_; rintro e w' ⟨rfl, t, rfl⟩) | (go_at_call 11; refine (iPlcSide_h m _ _ _ _ (by assumption)).mono ?_; rintro e w' ⟨rfl, t, rfl⟩) | (go_at_call 15; refine (maOk_c _).mono ?_; rintro e w' ⟨rfl, t, rfl⟩)
                | (
                  with_reducible refine wp_region_mix (by kernel_rfl) (by decide +kernel) ?_
                  repeat (first
                    | (refine mix_pure rfl ?_; (first | go_big_quiet_skip | (go_big_quiet_want; go_big_quiet_op; go_big_quiet_on)); refine wpQuiet_nil ?_)
                    | (refine mix_skip (by rfl) ?_; (try simp only [Act.put, List.setIfInBounds_toArray, List.set_cons_zero, List.set_cons_succ]))
                    | (refine mix_mk rfl (by rfl) (fun K hK => ?_); (first | (go_simp; first | (go_at_call 16; refine (plcCell_h m _ _ _ (by assumption)).mono ?_; rintro e w' ⟨rfl, t, rfl⟩) | (go_at_call 19; refine (iPlcEdge_h m _ _ _ _ (by assumption)).mono ?_; rintro e w' ⟨rfl, t, rfl⟩) | (go_at_call 20; refine (sPlcEdge_h m _ _ _ _ (by assumption)).mono ?_; rintro e w' ⟨rfl, t, rfl⟩) | (go_at_call 11; refine (iPlcSide_h m _ _ _ _ (by assumption)).mono ?_; rintro e w' ⟨rfl, t, rfl⟩) | (go_at_call 15; refine (maOk_c _).mono ?_; rintro e w' ⟨rfl, t, rfl⟩) | skip)); (show K _ _); refine hK _ _ (show Ext _ _ from (by ((try simp only [ext_drew]); (try simp only [ext_ext]); repeat (first | exact Ext.refl _ | with_reducible apply Ext.add | with_reducible apply Ext.dr | apply Ext.alloc | apply Ext.ext | apply Ext.drew | refine Ext.trans ?_ (by assumption))))) ?_; clear hK K; (try simp only [Act.put, List.setIfInBounds_toArray, List.set_cons_zero, List.set_cons_succ])))
                  refine mix_nil ?_)
                | (
                  with_reducible refine wp_region_ext (by kernel_rfl) (by kernel_rfl) ?_
                  repeat (first | go_big_quiet_skip | (go_big_quiet_want; go_big_quiet_op; first | go_big_quiet_on | (apply Exists.intro; refine ⟨fun _ => ?_, ?_⟩; ((first | (go_at_call 16; first | exact quiet_call (plcCell_h m _ _ _ (by assumption)) | exact quiet_call2 (plcCell_h m _ _ _ (by assumption))) | (go_at_call 19; first | exact quiet_call (iPlcEdge_h m _ _ _ _ (by assumption)) | exact quiet_call2 (iPlcEdge_h m _ _ _ _ (by assumption))) | (go_at_call 20; first | exact quiet_call (sPlcEdge_h m _ _ _ _ (by assumption)) | exact quiet_call2 (sPlcEdge_h m _ _ _ _ (by assumption))) | (go_at_call 11; first | exact quiet_call (iPlcSide_h m _ _ _ _ (by assumption)) | exact quiet_call2 (iPlcSide_h m _ _ _ _ (by assumption))) | (go_at_call 15; first | exact quiet_call (maOk_c _) | exact quiet_call2 (maOk_c _)))); (try rw [h1]); (try rw [h2]); (try rw [h3]); (try rw [h4]); (try rw [p1]); (try rw [p2]); (try rw [p3]); (try rw [p4]); (try rw [r1]); (try rw [r2]); (try rw [r3]); (try rw [r4]); (try rw [r5]); (try rw [r6]); (try rw [q3]); (try rw [q4]); (try rw [hp]); (try rw [hq]); go_big_quiet_on)))
                  refine wpQuiet_nil ?_
                  rintro _ ⟨tq, rfl⟩))
            go_ret
            exact ⟨rfl, Ext.below (by ((try simp only [ext_drew]); (try simp only [ext_ext]); repeat (first | exact Ext.refl _ | with_reducible apply Ext.add | with_reducible apply Ext.dr | apply Ext.alloc | apply Ext.ext | apply Ext.drew | refine Ext.trans ?_ (by assumption))))⟩
          ·
            have g0 : (s == 0) = false := beq_f (by omega)
            have g1 : (s == 1) = true := beq_t q0
            clear q0
            try go_wp2_with (first
                | (go_at_call 16; refine (plcCell_h m _ _ _ (by assumption)).mono ?_; rintro e w' ⟨rfl, t, rfl⟩) | (go_at_call 19; refine (iPlcEdge_h m _ _ _ _ (by assumption)).mono ?_; rintro e w' ⟨rfl, t, rfl⟩) | (go_at_call 20; refine (sPlcEdge_h m _ _ _ _ (by assumption)).mono ?_; rintro e w' ⟨rfl, t, rfl⟩) | (go_at_call 11; refine (iPlcSide_h m _ _ _ _ (by assumption)).mono ?_; rintro e w' ⟨rfl, t, rfl⟩) | (go_at_call 15; refine (maOk_c _).mono ?_; rintro e w' ⟨rfl, t, rfl⟩)
                | (
                  with_reducible refine wp_region_mix (by kernel_rfl) (by decide +kernel) ?_
                  repeat (first
                    | (refine mix_pure rfl ?_; (first | go_big_quiet_skip | (go_big_quiet_want; go_big_quiet_op; go_big_quiet_on)); refine wpQuiet_nil ?_)
                    | (refine mix_skip (by rfl) ?_; (try simp only [Act.put, List.setIfInBounds_toArray, List.set_cons_zero, List.set_cons_succ]))
                    | (refine mix_mk rfl (by rfl) (fun K hK => ?_); (first | (go_simp; first | (go_at_call 16; refine (plcCell_h m _ _ _ (by assumption)).mono ?_; rintro e w' ⟨rfl, t, rfl⟩) | (go_at_call 19; refine (iPlcEdge_h m _ _ _ _ (by assumption)).mono ?_; rintro e w' ⟨rfl, t, rfl⟩) | (go_at_call 20; refine (sPlcEdge_h m _ _ _ _ (by assumption)).mono ?_; rintro e w' ⟨rfl, t, rfl⟩) | (go_at_call 11; refine (iPlcSide_h m _ _ _ _ (by assumption)).mono ?_; rintro e w' ⟨rfl, t, rfl⟩) | (go_at_call 15; refine (maOk_c _).mono ?_; rintro e w' ⟨rfl, t, rfl⟩) | skip)); (show K _ _); refine hK _ _ (show Ext _ _ from (by ((try simp only [ext_drew]); (try simp only [ext_ext]); repeat (first | exact Ext.refl _ | with_reducible apply Ext.add | with_reducible apply Ext.dr | apply Ext.alloc | apply Ext.ext | apply Ext.drew | refine Ext.trans ?_ (by assumption))))) ?_; clear hK K; (try simp only [Act.put, List.setIfInBounds_toArray, List.set_cons_zero, List.set_cons_succ])))
                  refine mix_nil ?_)
                | (
                  with_reducible refine wp_region_ext (by kernel_rfl) (by kernel_rfl) ?_
                  repeat (first | go_big_quiet_skip | (go_big_quiet_want; go_big_quiet_op; first | go_big_quiet_on | (apply Exists.intro; refine ⟨fun _ => ?_, ?_⟩; ((first | (go_at_call 16; first | exact quiet_call (plcCell_h m _ _ _ (by assumption)) | exact quiet_call2 (plcCell_h m _ _ _ (by assumption))) | (go_at_call 19; first | exact quiet_call (iPlcEdge_h m _ _ _ _ (by assumption)) | exact quiet_call2 (iPlcEdge_h m _ _ _ _ (by assumption))) | (go_at_call 20; first | exact quiet_call (sPlcEdge_h m _ _ _ _ (by assumption)) | exact quiet_call2 (sPlcEdge_h m _ _ _ _ (by assumption))) | (go_at_call 11; first | exact quiet_call (iPlcSide_h m _ _ _ _ (by assumption)) | exact quiet_call2 (iPlcSide_h m _ _ _ _ (by assumption))) | (go_at_call 15; first | exact quiet_call (maOk_c _) | exact quiet_call2 (maOk_c _)))); (try rw [h1]); (try rw [h2]); (try rw [h3]); (try rw [h4]); (try rw [p1]); (try rw [p2]); (try rw [p3]); (try rw [p4]); (try rw [r1]); (try rw [r2]); (try rw [r3]); (try rw [r4]); (try rw [r5]); (try rw [r6]); (try rw [q3]); (try rw [q4]); (try rw [hp]); (try rw [hq]); go_big_quiet_on)))
                  refine wpQuiet_nil ?_
                  rintro _ ⟨tq, rfl⟩))
            go_ret
            exact ⟨rfl, Ext.below (by ((try simp only [ext_drew]); (try simp only [ext_ext]); repeat (first | exact Ext.refl _ | with_reducible apply Ext.add | with_reducible apply Ext.dr | apply Ext.alloc | apply Ext.ext | apply Ext.drew | refine Ext.trans ?_ (by assumption))))⟩
        · by_cases q3 : d = -1
          · subst q3
            clear h2
            rcases q1 with q0 | q0
            ·
              have g0 : (s == 0) = true := beq_t q0
              clear q0
              try go_wp2_with (first
                  | (go_at_call 16; refine (plcCell_h m _ _ _ (by assumption)).mono ?_; rintro e w' ⟨rfl, t, rfl⟩) | (go_at_call 19; refine (iPlcEdge_h m _ _ _ _ (by assumption)).mono ?_; rintro e w' ⟨rfl, t, rfl⟩) | (go_at_call 20; refine (sPlcEdge_h m _ _ _ _ (by assumption)).mono ?_; rintro e w' ⟨rfl, t, rfl⟩) | (go_at_call 11; refine (iPlcSide_h m _ _ _ _ (by assumption)).mono ?_; rintro e w' ⟨rfl, t, rfl⟩) | (go_at_call 15; refine (maOk_c _).mono ?_; rintro e w' ⟨rfl, t, rfl⟩)
                  | (
                    with_reducible refine wp_region_mix (by kernel_rfl) (by decide +kernel) ?_
                    repeat (first
                      | (refine mix_pure rfl ?_; (first | go_big_quiet_skip | (go_big_quiet_want; go_big_quiet_op; go_big_quiet_on)); refine wpQuiet_nil ?_)
                      | (refine mix_skip (by rfl) ?_; (try simp only [Act.put, List.setIfInBounds_toArray, List.set_cons_zero, List.set_cons_succ]))
                      | (refine mix_mk rfl (by rfl) (fun K hK => ?_); (first | (go_simp; first | (go_at_call 16; refine (plcCell_h m _ _ _ (by assumption)).mono ?_; rintro e w' ⟨rfl, t, rfl⟩) | (go_at_call 19; refine (iPlcEdge_h m _ _ _ _ (by assumption)).mono ?_; rintro e w' ⟨rfl, t, rfl⟩) | (go_at_call 20; refine (sPlcEdge_h m _ _ _ _ (by assumption)).mono ?_; rintro e w' ⟨rfl, t, rfl⟩) | (go_at_call 11; refine (iPlcSide_h m _ _ _ _ (by assumption)).mono ?_; rintro e w' ⟨rfl, t, rfl⟩) | (go_at_call 15; refine (maOk_c _).mono ?_; rintro e w' ⟨rfl, t, rfl⟩) | skip)); (show K _ _); refine hK _ _ (show Ext _ _ from (by ((try simp only [ext_drew]); (try simp only [ext_ext]); repeat (first | exact Ext.refl _ | with_reducible apply Ext.add | with_reducible apply Ext.dr | apply Ext.alloc | apply Ext.ext | apply Ext.drew | refine Ext.trans ?_ (by assumption))))) ?_; clear hK K; (try simp only [Act.put, List.setIfInBounds_toArray, List.set_cons_zero, List.set_cons_succ])))
                    refine mix_nil ?_)
                  | (
                    with_reducible refine wp_region_ext (by kernel_rfl) (by kernel_rfl) ?_
                    repeat (first | go_big_quiet_skip | (go_big_quiet_want; go_big_quiet_op; first | go_big_quiet_on | (apply Exists.intro; refine ⟨fun _ => ?_, ?_⟩; ((first | (go_at_call 16; first | exact quiet_call (plcCell_h m _ _ _ (by assumption)) | exact quiet_call2 (plcCell_h m _ _ _ (by assumption))) | (go_at_call 19; first | exact quiet_call (iPlcEdge_h m _ _ _ _ (by assumption)) | exact quiet_call2 (iPlcEdge_h m _ _ _ _ (by assumption))) | (go_at_call 20; first | exact quiet_call (sPlcEdge_h m _ _ _ _ (by assumption)) | exact quiet_call2 (sPlcEdge_h m _ _ _ _ (by assumption))) | (go_at_call 11; first | exact quiet_call (iPlcSide_h m _ _ _ _ (by assumption)) | exact quiet_call2 (iPlcSide_h m _ _ _ _ (by assumption))) | (go_at_call 15; first | exact quiet_call (maOk_c _) | exact quiet_call2 (maOk_c _)))); (try rw [h1]); (try rw [h2]); (try rw [h3]); (try rw [h4]); (try rw [p1]); (try rw [p2]); (try rw [p3]); (try rw [p4]); (try rw [r1]); (try rw [r2]); (try rw [r3]); (try rw [r4]); (try rw [r5]); (try rw [r6]); (try rw [q3]); (try rw [q4]); (try rw [hp]); (try rw [hq]); go_big_quiet_on)))
                    refine wpQuiet_nil ?_
                    rintro _ ⟨tq, rfl⟩))
              go_ret
              exact ⟨rfl, Ext.below (by ((try simp only [ext_drew]); (try simp only [ext_ext]); repeat (first | exact Ext.refl _ | with_reducible apply Ext.add | with_reducible apply Ext.dr | apply Ext.alloc | apply Ext.ext | apply Ext.drew | refine Ext.trans ?_ (by assumption))))⟩
            ·
              have g0 : (s == 0) = false := beq_f (by omega)
              have g1 : (s == 1) = true := beq_t q0
              clear q0
              try go_wp2_with (first
                  | (go_at_call 16; refine (plcCell_h m _ _ _ (by assumption)).mono ?_; rintro e w' ⟨rfl, t, rfl⟩) | (go_at_call 19; refine (iPlcEdge_h m _ _ _ _ (by assumption)).mono ?_; rintro e w' ⟨rfl, t, rfl⟩) | (go_at_call 20; refine (sPlcEdge_h m _ _ _ _ (by assumption)).mono ?_; rintro e w' ⟨rfl, t, rfl⟩) | (go_at_call 11; refine (iPlcSide_h m _ _ _ _ (by assumption)).mono ?_; rintro e w' ⟨rfl, t, rfl⟩) | (go_at_call 15; refine (maOk_c _).mono ?_; rintro e w' ⟨rfl, t, rfl⟩)
                  | (
                    with_reducible refine wp_region_mix (by kernel_rfl) (by decide +kernel) ?_
                    repeat (first
                      | (refine mix_pure rfl ?_; (first | go_big_quiet_skip | (go_big_quiet_want; go_big_quiet_op; go_big_quiet_on)); refine wpQuiet_nil ?_)
                      | (refine mix_skip (by rfl) ?_; (try simp only [Act.put, List.setIfInBounds_toArray, List.set_cons_zero, List.set_cons_succ]))
                      | (refine mix_mk rfl (by rfl) (fun K hK => ?_); (first | (go_simp; first | (go_at_call 16; refine (plcCell_h m _ _ _ (by assumption)).mono ?_; rintro e w' ⟨rfl, t, rfl⟩) | (go_at_call 19; refine (iPlcEdge_h m _ _ _ _ (by assumption)).mono ?_; rintro e w' ⟨rfl, t, rfl⟩) | (go_at_call 20; refine (sPlcEdge_h m _ _ _ _ (by assumption)).mono ?_; rintro e w' ⟨rfl, t, rfl⟩) | (go_at_call 11; refine (iPlcSide_h m _ _ _ _ (by assumption)).mono ?_; rintro e w' ⟨rfl, t, rfl⟩) | (go_at_call 15; refine (maOk_c _).mono ?_; rintro e w' ⟨rfl, t, rfl⟩) | skip)); (show K _ _); refine hK _ _ (show Ext _ _ from (by ((try simp only [ext_drew]); (try simp only [ext_ext]); repeat (first | exact Ext.refl _ | with_reducible apply Ext.add | with_reducible apply Ext.dr | apply Ext.alloc | apply Ext.ext | apply Ext.drew | refine Ext.trans ?_ (by assumption))))) ?_; clear hK K; (try simp only [Act.put, List.setIfInBounds_toArray, List.set_cons_zero, List.set_cons_succ])))
                    refine mix_nil ?_)
                  | (
                    with_reducible refine wp_region_ext (by kernel_rfl) (by kernel_rfl) ?_
                    repeat (first | go_big_quiet_skip | (go_big_quiet_want; go_big_quiet_op; first | go_big_quiet_on | (apply Exists.intro; refine ⟨fun _ => ?_, ?_⟩; ((first | (go_at_call 16; first | exact quiet_call (plcCell_h m _ _ _ (by assumption)) | exact quiet_call2 (plcCell_h m _ _ _ (by assumption))) | (go_at_call 19; first | exact quiet_call (iPlcEdge_h m _ _ _ _ (by assumption)) | exact quiet_call2 (iPlcEdge_h m _ _ _ _ (by assumption))) | (go_at_call 20; first | exact quiet_call (sPlcEdge_h m _ _ _ _ (by assumption)) | exact quiet_call2 (sPlcEdge_h m _ _ _ _ (by assumption))) | (go_at_call 11; first | exact quiet_call (iPlcSide_h m _ _ _ _ (by assumption)) | exact quiet_call2 (iPlcSide_h m _ _ _ _ (by assumption))) | (go_at_call 15; first | exact quiet_call (maOk_c _) | exact quiet_call2 (maOk_c _)))); (try rw [h1]); (try rw [h2]); (try rw [h3]); (try rw [h4]); (try rw [p1]); (try rw [p2]); (try rw [p3]); (try rw [p4]); (try rw [r1]); (try rw [r2]); (try rw [r3]); (try rw [r4]); (try rw [r5]); (try rw [r6]); (try rw [q3]); (try rw [q4]); (try rw [hp]); (try rw [hq]); go_big_quiet_on)))
                    refine wpQuiet_nil ?_
                    rintro _ ⟨tq, rfl⟩))
              go_ret
              exact ⟨rfl, Ext.below (by ((try simp only [ext_drew]); (try simp only [ext_ext]); repeat (first | exact Ext.refl _ | with_reducible apply Ext.add | with_reducible apply Ext.dr | apply Ext.alloc | apply Ext.ext | apply Ext.drew | refine Ext.trans ?_ (by assumption))))⟩
          · obtain rfl : d = b := by
              apply Classical.byContradiction
              intro q4
              exact h2 ⟨q1, q2, q3, q4⟩
            clear h2 q3
            rcases q1 with q0 | q0
            ·
              have g0 : (s == 0) = true := beq_t q0
              clear q0
              try go_wp2_with (first
                  | (go_at_call 16; refine (plcCell_h m _ _ _ (by assumption)).mono ?_; rintro e w' ⟨rfl, t, rfl⟩) | (go_at_call 19; refine (iPlcEdge_h m _ _ _ _ (by assumption)).mono ?_; rintro e w' ⟨rfl, t, rfl⟩) | (go_at_call 20; refine (sPlcEdge_h m _ _ _ _ (by assumption)).mono ?_; rintro e w' ⟨rfl, t, rfl⟩) | (go_at_call 11; refine (iPlcSide_h m _ _ _ _ (by assumption)).mono ?_; rintro e w' ⟨rfl, t, rfl⟩) | (go_at_call 15; refine (maOk_c _).mono ?_; rintro e w' ⟨rfl, t, rfl⟩)
                  | (
                    with_reducible refine wp_region_mix (by kernel_rfl) (by decide +kernel) ?_
                    repeat (first
                      | (refine mix_pure rfl ?_; (first | go_big_quiet_skip | (go_big_quiet_want; go_big_quiet_op; go_big_quiet_on)); refine wpQuiet_nil ?_)
                      | (refine mix_skip (by rfl) ?_; (try simp only [Act.put, List.setIfInBounds_toArray, List.set_cons_zero, List.set_cons_succ]))
                      | (refine mix_mk rfl (by rfl) (fun K hK => ?_); (first | (go_simp; first | (go_at_call 16; refine (plcCell_h m _ _ _ (by assumption)).mono ?_; rintro e w' ⟨rfl, t, rfl⟩) | (go_at_call 19; refine (iPlcEdge_h m _ _ _ _ (by assumption)).mono ?_; rintro e w' ⟨rfl, t, rfl⟩) | (go_at_call 20; refine (sPlcEdge_h m _ _ _ _ (by assumption)).mono ?_; rintro e w' ⟨rfl, t, rfl⟩) | (go_at_call 11; refine (iPlcSide_h m _ _ _ _ (by assumption)).mono ?_; rintro e w' ⟨rfl, t, rfl⟩) | (go_at_call 15; refine (maOk_c _).mono ?_; rintro e w' ⟨rfl, t, rfl⟩) | skip)); (show K _ _); refine hK _ _ (show Ext _ _ from (by ((try simp only [ext_drew]); (try simp only [ext_ext]); repeat (first | exact Ext.refl _ | with_reducible apply Ext.add | with_reducible apply Ext.dr | apply Ext.alloc | apply Ext.ext | apply Ext.drew | refine Ext.trans ?_ (by assumption))))) ?_; clear hK K; (try simp only [Act.put, List.setIfInBounds_toArray, List.set_cons_zero, List.set_cons_succ])))
                    refine mix_nil ?_)
                  | (
                    with_reducible refine wp_region_ext (by kernel_rfl) (by kernel_rfl) ?_
                    repeat (first | go_big_quiet_skip | (go_big_quiet_want; go_big_quiet_op; first | go_big_quiet_on | (apply Exists.intro; refine ⟨fun _ => ?_, ?_⟩; ((first | (go_at_call 16; first | exact quiet_call (plcCell_h m _ _ _ (by assumption)) | exact quiet_call2 (plcCell_h m _ _ _ (by assumption))) | (go_at_call 19; first | exact quiet_call (iPlcEdge_h m _ _ _ _ (by assumption)) | exact quiet_call2 (iPlcEdge_h m _ _ _ _ (by assumption))) | (go_at_call 20; first | exact quiet_call (sPlcEdge_h m _ _ _ _ (by assumption)) | exact quiet_call2 (sPlcEdge_h m _ _ _ _ (by assumption))) | (go_at_call 11; first | exact quiet_call (iPlcSide_h m _ _ _ _ (by assumption)) | exact quiet_call2 (iPlcSide_h m _ _ _ _ (by assumption))) | (go_at_call 15; first | exact quiet_call (maOk_c _) | exact quiet_call2 (maOk_c _)))); (try rw [h1]); (try rw [h2]); (try rw [h3]); (try rw [h4]); (try rw [p1]); (try rw [p2]); (try rw [p3]); (try rw [p4]); (try rw [r1]); (try rw [r2]); (try rw [r3]); (try rw [r4]); (try rw [r5]); (try rw [r6]); (try rw [q3]); (try rw [q4]); (try rw [hp]); (try rw [hq]); go_big_quiet_on)))
                    refine wpQuiet_nil ?_
                    rintro _ ⟨tq, rfl⟩))
              go_ret
              exact ⟨rfl, Ext.below (by ((try simp only [ext_drew]); (try simp only [ext_ext]); repeat (first | exact Ext.refl _ | with_reducible apply Ext.add | with_reducible apply Ext.dr | apply Ext.alloc | apply Ext.ext | apply Ext.drew | refine Ext.trans ?_ (by assumption))))⟩
            ·
              have g0 : (s == 0) = false := beq_f (by omega)
              have g1 : (s == 1) = true := beq_t q0
              clear q0
              try go_wp2_with (first
                  | (go_at_call 16; refine (plcCell_h m _ _ _ (by assumption)).mono ?_; rintro e w' ⟨rfl, t, rfl⟩) | (go_at_call 19; refine (iPlcEdge_h m _ _ _ _ (by assumption)).mono ?_; rintro e w' ⟨rfl, t, rfl⟩) | (go_at_call 20; refine (sPlcEdge_h m _ _ _ _ (by assumption)).mono ?_; rintro e w' ⟨rfl, t, rfl⟩) | (go_at_call 11; refine (iPlcSide_h m _ _ _ _ (by assumption)).mono ?_; rintro e w' ⟨rfl, t, rfl⟩) | (go_at_call 15; refine (maOk_c _).mono ?_; rintro e w' ⟨rfl, t, rfl⟩)
                  | (
                    with_reducible refine wp_region_mix (by kernel_rfl) (by decide +kernel) ?_
                    repeat (first
                      | (refine mix_pure rfl ?_; (first | go_big_quiet_skip | (go_big_quiet_want; go_big_quiet_op; go_big_quiet_on)); refine wpQuiet_nil ?_)
                      | (refine mix_skip (by rfl) ?_; (try simp only [Act.put, List.setIfInBounds_toArray, List.set_cons_zero, List.set_cons_succ]))
                      | (refine mix_mk rfl (by rfl) (fun K hK => ?_); (first | (go_simp; first | (go_at_call 16; refine (plcCell_h m _ _ _ (by assumption)).mono ?_; rintro e w' ⟨rfl, t, rfl⟩) | (go_at_call 19; refine (iPlcEdge_h m _ _ _ _ (by assumption)).mono ?_; rintro e w' ⟨rfl, t, rfl⟩) | (go_at_call 20; refine (sPlcEdge_h m _ _ _ _ (by assumption)).mono ?_; rintro e w' ⟨rfl, t, rfl⟩) | (go_at_call 11; refine (iPlcSide_h m _ _ _ _ (by assumption)).mono ?_; rintro e w' ⟨rfl, t, rfl⟩) | (go_at_call 15; refine (maOk_c _).mono ?_; rintro e w' ⟨rfl, t, rfl⟩) | skip)); (show K _ _); refine hK _ _ (show Ext _ _ from (by ((try simp only [ext_drew]); (try simp only [ext_ext]); repeat (first | exact Ext.refl _ | with_reducible apply Ext.add | with_reducible apply Ext.dr | apply Ext.alloc | apply Ext.ext | apply Ext.drew | refine Ext.trans ?_ (by assumption))))) ?_; clear hK K; (try simp only [Act.put, List.setIfInBounds_toArray, List.set_cons_zero, List.set_cons_succ])))
                    refine mix_nil ?_)
                  | (
                    with_reducible refine wp_region_ext (by kernel_rfl) (by kernel_rfl) ?_
                    repeat (first | go_big_quiet_skip | (go_big_quiet_want; go_big_quiet_op; first | go_big_quiet_on | (apply Exists.intro; refine ⟨fun _ => ?_, ?_⟩; ((first | (go_at_call 16; first | exact quiet_call (plcCell_h m _ _ _ (by assumption)) | exact quiet_call2 (plcCell_h m _ _ _ (by assumption))) | (go_at_call 19; first | exact quiet_call (iPlcEdge_h m _ _ _ _ (by assumption)) | exact quiet_call2 (iPlcEdge_h m _ _ _ _ (by assumption))) | (go_at_call 20; first | exact quiet_call (sPlcEdge_h m _ _ _ _ (by assumption)) | exact quiet_call2 (sPlcEdge_h m _ _ _ _ (by assumption))) | (go_at_call 11; first | exact quiet_call (iPlcSide_h m _ _ _ _ (by assumption)) | exact quiet_call2 (iPlcSide_h m _ _ _ _ (by assumption))) | (go_at_call 15; first | exact quiet_call (maOk_c _) | exact quiet_call2 (maOk_c _)))); (try rw [h1]); (try rw [h2]); (try rw [h3]); (try rw [h4]); (try rw [p1]); (try rw [p2]); (try rw [p3]); (try rw [p4]); (try rw [r1]); (try rw [r2]); (try rw [r3]); (try rw [r4]); (try rw [r5]); (try rw [r6]); (try rw [q3]); (try rw [q4]); (try rw [hp]); (try rw [hq]); go_big_quiet_on)))
                    refine wpQuiet_nil ?_
                    rintro _ ⟨tq, rfl⟩))
              go_ret
              exact ⟨rfl, Ext.below (by ((try simp only [ext_drew]); (try simp only [ext_ext]); repeat (first | exact Ext.refl _ | with_reducible apply Ext.add | with_reducible apply Ext.dr | apply Ext.alloc | apply Ext.ext | apply Ext.drew | refine Ext.trans ?_ (by assumption))))⟩
      · have g0 : (s == 0) = false := beq_f (by omega)
        have g1 : (s == 1) = false := beq_f (by omega)
        clear h2 q1
        try go_wp2_with (first
            | (go_at_call 16; refine (plcCell_h m _ _ _ (by assumption)).mono ?_; rintro e w' ⟨rfl, t, rfl⟩) | (go_at_call 19; refine (iPlcEdge_h m _ _ _ _ (by assumption)).mono ?_; rintro e w' ⟨rfl, t, rfl⟩) | (go_at_call 20; refine (sPlcEdge_h m _ _ _ _ (by assumption)).mono ?_; rintro e w' ⟨rfl, t, rfl⟩) | (go_at_call 11; refine (iPlcSide_h m _ _ _ _ (by assumption)).mono ?_; rintro e w' ⟨rfl, t, rfl⟩) | (go_at_call 15; refine (maOk_c _).mono ?_; rintro e w' ⟨rfl, t, rfl⟩)
            | (
              with_reducible refine wp_region_mix (by kernel_rfl) (by decide +kernel) ?_
              repeat (first
                | (refine mix_pure rfl ?_; (first | go_big_quiet_skip | (go_big_quiet_want; go_big_quiet_op; go_big_quiet_on)); refine wpQuiet_nil ?_)
                | (refine mix_skip (by rfl) ?_; (try simp only [Act.put, List.setIfInBounds_toArray, List.set_cons_zero, List.set_cons_succ]))
                | (refine mix_mk rfl (by rfl) (fun K hK => ?_); (first | (go_simp; first | (go_at_call 16; refine (plcCell_h m _ _ _ (by assumption)).mono ?_; rintro e w' ⟨rfl, t, rfl⟩) | (go_at_call 19; refine (iPlcEdge_h m _ _ _ _ (by assumption)).mono ?_; rintro e w' ⟨rfl, t, rfl⟩) | (go_at_call 20; refine (sPlcEdge_h m _ _ _ _ (by assumption)).mono ?_; rintro e w' ⟨rfl, t, rfl⟩) | (go_at_call 11; refine (iPlcSide_h m _ _ _ _ (by assumption)).mono ?_; rintro e w' ⟨rfl, t, rfl⟩) | (go_at_call 15; refine (maOk_c _).mono ?_; rintro e w' ⟨rfl, t, rfl⟩) | skip)); (show K _ _); refine hK _ _ (show Ext _ _ from (by ((try simp only [ext_drew]); (try simp only [ext_ext]); repeat (first | exact Ext.refl _ | with_reducible apply Ext.add | with_reducible apply Ext.dr | apply Ext.alloc | apply Ext.ext | apply Ext.drew | refine Ext.trans ?_ (by assumption))))) ?_; clear hK K; (try simp only [Act.put, List.setIfInBounds_toArray, List.set_cons_zero, List.set_cons_succ])))
              refine mix_nil ?_)
            | (
              with_reducible refine wp_region_ext (by kernel_rfl) (by kernel_rfl) ?_
              repeat (first | go_big_quiet_skip | (go_big_quiet_want; go_big_quiet_op; first | go_big_quiet_on | (apply Exists.intro; refine ⟨fun _ => ?_, ?_⟩; ((first | (go_at_call 16; first | exact quiet_call (plcCell_h m _ _ _ (by assumption)) | exact quiet_call2 (plcCell_h m _ _ _ (by assumption))) | (go_at_call 19; first | exact quiet_call (iPlcEdge_h m _ _ _ _ (by assumption)) | exact quiet_call2 (iPlcEdge_h m _ _ _ _ (by assumption))) | (go_at_call 20; first | exact quiet_call (sPlcEdge_h m _ _ _ _ (by assumption)) | exact quiet_call2 (sPlcEdge_h m _ _ _ _ (by assumption))) | (go_at_call 11; first | exact quiet_call (iPlcSide_h m _ _ _ _ (by assumption)) | exact quiet_call2 (iPlcSide_h m _ _ _ _ (by assumption))) | (go_at_call 15; first | exact quiet_call (maOk_c _) | exact quiet_call2 (maOk_c _)))); (try rw [h1]); (try rw [h2]); (try rw [h3]); (try rw [h4]); (try rw [p1]); (try rw [p2]); (try rw [p3]); (try rw [p4]); (try rw [r1]); (try rw [r2]); (try rw [r3]); (try rw [r4]); (try rw [r5]); (try rw [r6]); (try rw [q3]); (try rw [q4]); (try rw [hp]); (try rw [hq]); go_big_quiet_on)))
              refine wpQuiet_nil ?_
              rintro _ ⟨tq, rfl⟩))
        go_ret
        exact ⟨rfl, Ext.below (by ((try simp only [ext_drew]); (try simp only [ext_ext]); repeat (first | exact Ext.refl _ | with_reducible apply Ext.add | with_reducible apply Ext.dr | apply Ext.alloc | apply Ext.ext | apply Ext.drew | refine Ext.trans ?_ (by assumption))))⟩
    · have HE := hid h1
      have HS := hid h6
      have g2 : (b != -1) = true := bne_t h3
      have g3 : (d != -1) = true := bne_t h4
      have g4 : (d != b) = true := bne_t h5
      clear h1 h6 h3 h4 h5
      rcases h2 with q0 | q0
      ·
        have g0 : (s == 0) = true := beq_t q0
        clear q0
        try go_wp2_with (first
            | (go_at_call 16; refine (plcCell_h m _ _ _ (by assumption)).mono ?_; rintro e w' ⟨rfl, t, rfl⟩) | (go_at_call 19; refine (iPlcEdge_h m _ _ _ _ (by assumption)).mono ?_; rintro e w' ⟨rfl, t, rfl⟩) | (go_at_call 20; refine (sPlcEdge_h m _ _ _ _ (by assumption)).mono ?_; rintro e w' ⟨rfl, t, rfl⟩) | (go_at_call 11; refine (iPlcSide_h m _ _ _ _ (by assumption)).mono ?_; rintro e w' ⟨rfl, t, rfl⟩) | (go_at_call 15; refine (maOk_c _).mono ?_; rintro e w' ⟨rfl, t, rfl⟩)
            | (
              with_reducible refine wp_region_mix (by kernel_rfl) (by decide +kernel) ?_
              repeat (first
                | (refine mix_pure rfl ?_; (first | go_big_quiet_skip | (go_big_quiet_want; go_big_quiet_op; go_big_quiet_on)); refine wpQuiet_nil ?_)
                | (refine mix_skip (by rfl) ?_; (try simp only [Act.put, List.setIfInBounds_toArray, List.set_cons_zero, List.set_cons_succ]))
                | (refine mix_mk rfl (by rfl) (fun K hK => ?_); (first | (go_simp; first | (go_at_call 16; refine (plcCell_h m _ _ _ (by assumption)).mono ?_; rintro e w' ⟨rfl, t, rfl⟩) | (go_at_call 19; refine (iPlcEdge_h m _ _ _ _ (by assumption)).mono ?_; rintro e w' ⟨rfl, t, rfl⟩) | (go_at_call 20; refine (sPlcEdge_h m _ _ _ _ (by assumption)).mono ?_; rintro e w' ⟨rfl, t, rfl⟩) | (go_at_call 11; refine (iPlcSide_h m _ _ _ _ (by assumption)).mono ?_; rintro e w' ⟨rfl, t, rfl⟩) | (go_at_call 15; refine (maOk_c _).mono ?_; rintro e w' ⟨rfl, t, rfl⟩) | skip)); (show K _ _); refine hK _ _ (show Ext _ _ from (by ((try simp only [ext_drew]); (try simp only [ext_ext]); repeat (first | exact Ext.refl _ | with_reducible apply Ext.add | with_reducible apply Ext.dr | apply Ext.alloc | apply Ext.ext | apply Ext.drew | refine Ext.trans ?_ (by assumption))))) ?_; clear hK K; (try simp only [Act.put, List.setIfInBounds_toArray, List.set_cons_zero, List.set_cons_succ])))
              refine mix_nil ?_)
            | (
              with_reducible refine wp_region_ext (by kernel_rfl) (by kernel_rfl) ?_
              repeat (first | go_big_quiet_skip | (go_big_quiet_want; go_big_quiet_op; first | go_big_quiet_on | (apply Exists.intro; refine ⟨fun _ => ?_, ?_⟩; ((first | (go_at_call 16; first | exact quiet_call (plcCell_h m _ _ _ (by assumption)) | exact quiet_call2 (plcCell_h m _ _ _ (by assumption))) | (go_at_call 19; first | exact quiet_call (iPlcEdge_h m _ _ _ _ (by assumption)) | exact quiet_call2 (iPlcEdge_h m _ _ _ _ (by assumption))) | (go_at_call 20; first | exact quiet_call (sPlcEdge_h m _ _ _ _ (by assumption)) | exact quiet_call2 (sPlcEdge_h m _ _ _ _ (by assumption))) | (go_at_call 11; first | exact quiet_call (iPlcSide_h m _ _ _ _ (by assumption)) | exact quiet_call2 (iPlcSide_h m _ _ _ _ (by assumption))) | (go_at_call 15; first | exact quiet_call (maOk_c _) | exact quiet_call2 (maOk_c _)))); (try rw [h1]); (try rw [h2]); (try rw [h3]); (try rw [h4]); (try rw [p1]); (try rw [p2]); (try rw [p3]); (try rw [p4]); (try rw [r1]); (try rw [r2]); (try rw [r3]); (try rw [r4]); (try rw [r5]); (try rw [r6]); (try rw [q3]); (try rw [q4]); (try rw [hp]); (try rw [hq]); go_big_quiet_on)))
              refine wpQuiet_nil ?_
              rintro _ ⟨tq, rfl⟩))
        go_ret
        exact ⟨rfl, Ext.below (by ((try simp only [ext_drew]); (try simp only [ext_ext]); repeat (first | exact Ext.refl _ | with_reducible apply Ext.add | with_reducible apply Ext.dr | apply Ext.alloc | apply Ext.ext | apply Ext.drew | refine Ext.trans ?_ (by assumption))))⟩
      ·
        have g0 : (s == 0) = false := beq_f (by omega)
        have g1 : (s == 1) = true := beq_t q0
        clear q0
        try go_wp2_with (first
            | (go_at_call 16; refine (plcCell_h m _ _ _ (by assumption)).mono ?_; rintro e w' ⟨rfl, t, rfl⟩) | (go_at_call 19; refine (iPlcEdge_h m _ _ _ _ (by assumption)).mono ?_; rintro e w' ⟨rfl, t, rfl⟩) | (go_at_call 20; refine (sPlcEdge_h m _ _ _ _ (by assumption)).mono ?_; rintro e w' ⟨rfl, t, rfl⟩) | (go_at_call 11; refine (iPlcSide_h m _ _ _ _ (by assumption)).mono ?_; rintro e w' ⟨rfl, t, rfl⟩) | (go_at_call 15; refine (maOk_c _).mono ?_; rintro e w' ⟨rfl, t, rfl⟩)
            | (
              with_reducible refine wp_region_mix (by kernel_rfl) (by decide +kernel) ?_
              repeat (first
                | (refine mix_pure rfl ?_; (first | go_big_quiet_skip | (go_big_quiet_want; go_big_quiet_op; go_big_quiet_on)); refine wpQuiet_nil ?_)
                | (refine mix_skip (by rfl) ?_; (try simp only [Act.put, List.setIfInBounds_toArray, List.set_cons_zero, List.set_cons_succ]))
                | (refine mix_mk rfl (by rfl) (fun K hK => ?_); (first | (go_simp; first | (go_at_call 16; refine (plcCell_h m _ _ _ (by assumption)).mono ?_; rintro e w' ⟨rfl, t, rfl⟩) | (go_at_call 19; refine (iPlcEdge_h m _ _ _ _ (by assumption)).mono ?_; rintro e w' ⟨rfl, t, rfl⟩) | (go_at_call 20; refine (sPlcEdge_h m _ _ _ _ (by assumption)).mono ?_; rintro e w' ⟨rfl, t, rfl⟩) | (go_at_call 11; refine (iPlcSide_h m _ _ _ _ (by assumption)).mono ?_; rintro e w' ⟨rfl, t, rfl⟩) | (go_at_call 15; refine (maOk_c _).mono ?_; rintro e w' ⟨rfl, t, rfl⟩) | skip)); (show K _ _); refine hK _ _ (show Ext _ _ from (by ((try simp only [ext_drew]); (try simp only [ext_ext]); repeat (first | exact Ext.refl _ | with_reducible apply Ext.add | with_reducible apply Ext.dr | apply Ext.alloc | apply Ext.ext | apply Ext.drew | refine Ext.trans ?_ (by assumption))))) ?_; clear hK K; (try simp only [Act.put, List.setIfInBounds_toArray, List.set_cons_zero, List.set_cons_succ])))
              refine mix_nil ?_)
            | (
              with_reducible refine wp_region_ext (by kernel_rfl) (by kernel_rfl) ?_
              repeat (first | go_big_quiet_skip | (go_big_quiet_want; go_big_quiet_op; first | go_big_quiet_on | (apply Exists.intro; refine ⟨fun _ => ?_, ?_⟩; ((first | (go_at_call 16; first | exact quiet_call (plcCell_h m _ _ _ (by assumption)) | exact quiet_call2 (plcCell_h m _ _ _ (by assumption))) | (go_at_call 19; first | exact quiet_call (iPlcEdge_h m _ _ _ _ (by assumption)) | exact quiet_call2 (iPlcEdge_h m _ _ _ _ (by assumption))) | (go_at_call 20; first | exact quiet_call (sPlcEdge_h m _ _ _ _ (by assumption)) | exact quiet_call2 (sPlcEdge_h m _ _ _ _ (by assumption))) | (go_at_call 11; first | exact quiet_call (iPlcSide_h m _ _ _ _ (by assumption)) | exact quiet_call2 (iPlcSide_h m _ _ _ _ (by assumption))) | (go_at_call 15; first | exact quiet_call (maOk_c _) | exact quiet_call2 (maOk_c _)))); (try rw [h1]); (try rw [h2]); (try rw [h3]); (try rw [h4]); (try rw [p1]); (try rw [p2]); (try rw [p3]); (try rw [p4]); (try rw [r1]); (try rw [r2]); (try rw [r3]); (try rw [r4]); (try rw [r5]); (try rw [r6]); (try rw [q3]); (try rw [q4]); (try rw [hp]); (try rw [hq]); go_big_quiet_on)))
              refine wpQuiet_nil ?_
              rintro _ ⟨tq, rfl⟩))
        go_ret
        exact ⟨rfl, Ext.below (by ((try simp only [ext_drew]); (try simp only [ext_ext]); repeat (first | exact Ext.refl _ | with_reducible apply Ext.add | with_reducible apply Ext.dr | apply Ext.alloc | apply Ext.ext | apply Ext.drew | refine Ext.trans ?_ (by assumption))))⟩

set_option maxRecDepth 100000 in
theorem fnPlcEdge_lifted (os : Os) (started : os.Started) (H : Type) (enc : TypeId × Value → H) :
    ReturnsInHanded {} Try.checked os 4 .any (Rows.fnPlcEdgeSpec.pre6 enc Try.prog Try.f4 Rows.fnPlcEdgeRow.domain false) (Rows.fnPlcEdgeSpec.post enc Try.prog Try.f4 false true false false) := by
  refine returnsInHanded_of_change (C := Try.checked) own_knob started (by kernel_rfl) Try.func4
    (ChangeSpec.witness6 (enc := enc) (C := Try.checked) false ⟨#[], #[.slice none 0 0], []⟩ 8 (by kernel_rfl) (by kernel_rfl) (by kernel_rfl) (by kernel_rfl)) ?_
  intro W base args ds gs before hval0 hW _ _
  have hval : ∀ (j : Nat) t v, Try.f4.params[j]? = some t → args[j]? = some v → Value.okWide Try.prog W .any base t v := hval0
  have hfin : ∀ W', Below W.heap.size W W' → Rows.fnPlcEdgeSpec.post enc Try.prog Try.f4 false true false false W args (.bool true) W' := fun W' hb =>
    law_post laid_out rfl bool_ty rfl (by kernel_rfl) hW (fun ds h => by match ds, h with | [_], _ => rfl) hb
  suffices hwalk : Calls Try.prog 4 args W fun e W' => e = .returned (.bool true) ∧ Below W.heap.size W W' by
    refine hwalk.mono fun e W' ⟨he, hb⟩ => ?_
    subst he
    exact ⟨_, rfl, hfin W' hb⟩
  clear hfin
  obtain ⟨p, q, hA0, hV, _, hfz, hnd⟩ := hW
  have hA : DataW.TrodAll enc Try.prog W 0 (fun _ => true) true Try.f4.params.toList args.toList ds p := hA0
  clear hA0 hval0 hV hfz hnd
  rw [Try.params4] at hA hval
  obtain ⟨v0, vs0, d0, ds0, p0, q0, hargs0, _, _, h0, r0⟩ := trodAll_cons hA
  obtain ⟨hnil, _, _⟩ := trodAll_nil r0
  obtain rfl : args = #[v0] := by cases args; simp_all
  clear hargs0 hnil
  obtain ⟨code_a, code_n, code_c, rfl⟩ := okWide_slice Try.underlying22 (hval 0 22 v0 rfl rfl)
  obtain ⟨hb0, hd0⟩ := open_bytes h0
  exact fnPlcEdge_walk W code_a code_n code_c hb0 hd0

theorem fnPlcEdge_holds : Rows.FnPlcEdgeSaid :=
  OpenClaim.holds_of_wide 4 Try.f4 rfl rfl rfl rfl rfl rfl rfl ⟨rfl, rfl, rfl, rfl, rfl⟩ rfl rfl rfl rfl rfl (by kernel_rfl) Try.func4 (by kernel_rfl)
    (of_decide_eq_true (by kernel_rfl)) (by unfold Func.isWrapper; rw [if_neg (by decide +kernel)]; exact ⟨rfl, rfl⟩)
    (fun os started H enc _ => fnPlcEdge_lifted os started H enc)


end Go.Proofs.Ytbbpipbemhggdaa
