/- Packed texts: Ma, Mas -/
import Derived.Test.YtbbpipbemhggdaaZG1
import Derived.Test.YtbbpipbemhggdaaZG2
namespace Go.Proofs.Ytbbpipbemhggdaa
open Go.RowKit
set_option linter.unusedSimpArgs false
set_option linter.unusedVariables false

theorem maOk_c (w : World) : Calls Try.prog 15 #[] w fun e w' => e = .returned (.bool true) ∧ Ext w w' := by
  have h := hid (show plcOk ⟨2, 2⟩ = true by decide)
  go_enter Try.func15, Try.ntmps15
  try go_wp2_with (first
      | (go_at_call 13; refine (iPlcOk_c ⟨2, 2⟩ _).mono ?_; rintro e w' ⟨rfl, t, rfl⟩)
      | (
        with_reducible refine wp_region_mix (by kernel_rfl) (by decide +kernel) ?_
        repeat (first
          | (refine mix_pure rfl ?_; (first | go_big_quiet_skip | (go_big_quiet_want; go_big_quiet_op; go_big_quiet_on)); refine wpQuiet_nil ?_)
          | (refine mix_skip (by rfl) ?_; (try simp only [Act.put, List.setIfInBounds_toArray, List.set_cons_zero, List.set_cons_succ]))
          | (refine mix_mk rfl (by rfl) (fun K hK => ?_); (first | (go_simp; first | (go_at_call 13; refine (iPlcOk_c ⟨2, 2⟩ _).mono ?_; rintro e w' ⟨rfl, t, rfl⟩) | skip)); (show K _ _); refine hK _ _ (show Ext _ _ from zq0) ?_; clear hK K; (try simp only [Act.put, List.setIfInBounds_toArray, List.set_cons_zero, List.set_cons_succ])))
        refine mix_nil ?_)
      | (
        with_reducible refine wp_region_ext (by kernel_rfl) (by kernel_rfl) ?_
        repeat (first | go_big_quiet_skip | (go_big_quiet_want; go_big_quiet_op; first | go_big_quiet_on | (apply Exists.intro; refine ⟨fun _ => ?_, ?_⟩; (fail); (try rw [h1]); (try rw [h2]); (try rw [h3]); (try rw [h4]); (try rw [p1]); (try rw [p2]); (try rw [p3]); (try rw [p4]); (try rw [r1]); (try rw [r2]); (try rw [r3]); (try rw [r4]); (try rw [r5]); (try rw [r6]); (try rw [q3]); (try rw [q4]); (try rw [hp]); (try rw [hq]); go_big_quiet_on)))
        refine wpQuiet_nil ?_
        rintro _ ⟨tq, rfl⟩))
  go_ret
  exact ⟨ret_bool h.out, zq0⟩
end Go.Proofs.Ytbbpipbemhggdaa

namespace Go.Proofs.Ytbbpipbemhggdaa
open Go.RowKit
set_option linter.unusedSimpArgs false
set_option linter.unusedVariables false

set_option maxRecDepth 100000 in
set_option maxHeartbeats 2000000 in
theorem maList_c (xs : List Wlk) (a1 a2 : Option Addr) (n1 n2 c1 c2 : Nat) (w : World) (h1 : Re w (.sl sWlk) [.slice a1 n1 c1] (.l (xs.map Wlk.dat))) (h2 : Re w (.sl sWlk) [.slice a2 n2 c2] (.l (xs.map Wlk.dat))) (hn : n1 ≤ 2097152) :
    Calls Try.prog 37 #[.slice a1 n1 c1, .slice a2 n2 c2] w fun e w' => e = .returned (.bool true) ∧ Ext w w' := by
  obtain rfl : n1 = n2 := by rw [h1.len, h2.len]
  have H1 := hid h1
  have H2 := hid h2
  clear h1 h2
  go_enter Try.func37, Try.ntmps37
  go_wp2
  go_loopw [5] (fun i wr => ∃ k : Nat, k ≤ n1 ∧ i = .int .i64 k ∧ Ext w wr) (fun i _ => n1 - (intOf i).toNat)
  case atStart => exact ⟨0, Nat.zero_le _, rfl, Ext.refl _⟩
  case round =>
    obtain ⟨k, hk, rfl, t, rfl⟩ := hrel
    by_cases hlt : k < n1
    · obtain ⟨x, b1, o1, hx, rfl, hb1, f0, f1, f2, f3, f4⟩ := at_Wlk H1.out hlt
      obtain ⟨y, b2, o2, hy, rfl, hb2, g0, g1, g2, g3, g4⟩ := at_Wlk H2.out hlt
      have e : x = y := Option.some.inj (hx.symm.trans hy)
      subst e
      clear hx hy
      go_wp2
      with_reducible refine wp_region_ext (by kernel_rfl) (by kernel_rfl) ?_
      repeat (go_big_quiet_step (fail))
      refine wpQuiet_nil ?_
      rintro _ ⟨tq, rfl⟩
      go_wp2
      go_roundw
      case rel => exact ⟨k + 1, by omega, by go_num, zq0⟩
      case measure => simp [intOf]; omega
    · go_wp2
      go_ret
      exact ⟨rfl, zq0⟩
set_option maxRecDepth 100000 in
set_option maxHeartbeats 2000000 in
theorem maGhosts_c (xs : List Gst) (a1 a2 : Option Addr) (n1 n2 c1 c2 : Nat) (w : World) (h1 : Re w (.sl sGst) [.slice a1 n1 c1] (.l (xs.map Gst.dat))) (h2 : Re w (.sl sGst) [.slice a2 n2 c2] (.l (xs.map Gst.dat))) (hn : n1 ≤ 2097152) :
    Calls Try.prog 49 #[.slice a1 n1 c1, .slice a2 n2 c2] w fun e w' => e = .returned (.bool true) ∧ Ext w w' := by
  obtain rfl : n1 = n2 := by rw [h1.len, h2.len]
  have H1 := hid h1
  have H2 := hid h2
  clear h1 h2
  go_enter Try.func49, Try.ntmps49
  go_wp2
  go_loopw [5] (fun i wr => ∃ k : Nat, k ≤ n1 ∧ i = .int .i64 k ∧ Ext w wr) (fun i _ => n1 - (intOf i).toNat)
  case atStart => exact ⟨0, Nat.zero_le _, rfl, Ext.refl _⟩
  case round =>
    obtain ⟨k, hk, rfl, t, rfl⟩ := hrel
    by_cases hlt : k < n1
    · obtain ⟨x, b1, o1, hx, rfl, hb1, f0, f1, f2, f3, f4, f5, f6⟩ := at_Gst H1.out hlt
      obtain ⟨y, b2, o2, hy, rfl, hb2, g0, g1, g2, g3, g4, g5, g6⟩ := at_Gst H2.out hlt
      have e : x = y := Option.some.inj (hx.symm.trans hy)
      subst e
      clear hx hy
      go_wp2
      with_reducible refine wp_region_ext (by kernel_rfl) (by kernel_rfl) ?_
      repeat (go_big_quiet_step (fail))
      refine wpQuiet_nil ?_
      rintro _ ⟨tq, rfl⟩
      go_wp2
      go_roundw
      case rel => exact ⟨k + 1, by omega, by go_num, zq0⟩
      case measure => simp [intOf]; omega
    · go_wp2
      go_ret
      exact ⟨rfl, zq0⟩
end Go.Proofs.Ytbbpipbemhggdaa

