/- The laws' comparisons of lists: of equal ones. -/
import Derived.Test.YtbbpipbemhggdaaMa
import Derived.Test.YtbbpipbemhggdaaTWlk
import Derived.Test.YtbbpipbemhggdaaTPcl
import Derived.Test.YtbbpipbemhggdaaTGst
import Derived.Test.YtbbpipbemhggdaaTInt
namespace Go.Proofs.Ytbbpipbemhggdaa
open Go.RowKit
set_option linter.unusedSimpArgs false
set_option linter.unusedVariables false

set_option maxRecDepth 100000 in
set_option maxHeartbeats 2000000 in
theorem maList_c (xs : List Wlk) (a1 a2 : Option Addr) (n1 n2 c1 c2 : Nat) (w : World) (h1 : Re w (.sl sWlk) [.slice a1 n1 c1] (.l (xs.map Wlk.dat))) (h2 : Re w (.sl sWlk) [.slice a2 n2 c2] (.l (xs.map Wlk.dat))) (hn : n1 ≤ 2097152) :
    Calls Try.prog 37 #[.slice a1 n1 c1, .slice a2 n2 c2] w fun e w' => e = .returned (.bool true) ∧ Ext w w' := by
  obtain rfl : n1 = n2 := by rw [h1.len, h2.len]
  have H1 := hid h1
  have H2 := hid h2
  clear h1 h2
  go_enter Try.func37, Try.ntmps37
  go_wp2
  go_loopw [5] (fun i wr => ∃ k : Nat, k ≤ n1 ∧ i = .int .i64 k ∧ Ext w wr) (fun i _ => n1 - (intOf i).toNat)
  case atStart => exact ⟨0, Nat.zero_le _, rfl, Ext.refl _⟩
  case round =>
    obtain ⟨k, hk, rfl, t, rfl⟩ := hrel
    by_cases hlt : k < n1
    · obtain ⟨x, b1, o1, hx, rfl, hb1, f0, f1, f2, f3, f4⟩ := at_Wlk H1.out hlt
      obtain ⟨y, b2, o2, hy, rfl, hb2, g0, g1, g2, g3, g4⟩ := at_Wlk H2.out hlt
      have e : x = y := Option.some.inj (hx.symm.trans hy)
      subst e
      clear hx hy
      go_wp2
      with_reducible refine wp_region_ext (by kernel_rfl) (by kernel_rfl) ?_
      repeat (go_big_quiet_step (fail))
      refine wpQuiet_nil ?_
      rintro _ ⟨tq, rfl⟩
      go_wp2
      go_roundw
      case rel => exact ⟨k + 1, by omega, by go_num, (by ((try simp only [ext_drew]); (try simp only [ext_ext]); repeat (first | exact Ext.refl _ | with_reducible apply Ext.add | with_reducible apply Ext.dr | apply Ext.alloc | apply Ext.ext | apply Ext.drew | refine Ext.trans ?_ (by assumption))))⟩
      case measure => simp [intOf]; omega
    · go_wp2
      go_ret
      exact ⟨rfl, (by ((try simp only [ext_drew]); (try simp only [ext_ext]); repeat (first | exact Ext.refl _ | with_reducible apply Ext.add | with_reducible apply Ext.dr | apply Ext.alloc | apply Ext.ext | apply Ext.drew | refine Ext.trans ?_ (by assumption))))⟩
set_option maxRecDepth 100000 in
set_option maxHeartbeats 2000000 in
theorem maParcels_c (xs : List Pcl) (a1 a2 : Option Addr) (n1 n2 c1 c2 : Nat) (w : World) (h1 : Re w (.sl sPcl) [.slice a1 n1 c1] (.l (xs.map Pcl.dat))) (h2 : Re w (.sl sPcl) [.slice a2 n2 c2] (.l (xs.map Pcl.dat))) (hn : n1 ≤ 2097152) :
    Calls Try.prog 33 #[.slice a1 n1 c1, .slice a2 n2 c2] w fun e w' => e = .returned (.bool true) ∧ Ext w w' := by
  obtain rfl : n1 = n2 := by rw [h1.len, h2.len]
  have H1 := hid h1
  have H2 := hid h2
  clear h1 h2
  go_enter Try.func33, Try.ntmps33
  go_wp2
  go_loopw [5] (fun i wr => ∃ k : Nat, k ≤ n1 ∧ i = .int .i64 k ∧ Ext w wr) (fun i _ => n1 - (intOf i).toNat)
  case atStart => exact ⟨0, Nat.zero_le _, rfl, Ext.refl _⟩
  case round =>
    obtain ⟨k, hk, rfl, t, rfl⟩ := hrel
    by_cases hlt : k < n1
    · obtain ⟨x, b1, o1, hx, rfl, hb1, f0, f1, f2, f3, f4, f5, f6, f7⟩ := at_Pcl H1.out hlt
      obtain ⟨y, b2, o2, hy, rfl, hb2, g0, g1, g2, g3, g4, g5, g6, g7⟩ := at_Pcl H2.out hlt
      have e : x = y := Option.some.inj (hx.symm.trans hy)
      subst e
      clear hx hy
      go_wp2
      with_reducible refine wp_region_ext (by kernel_rfl) (by kernel_rfl) ?_
      repeat (go_big_quiet_step (fail))
      refine wpQuiet_nil ?_
      rintro _ ⟨tq, rfl⟩
      go_wp2
      go_roundw
      case rel => exact ⟨k + 1, by omega, by go_num, (by ((try simp only [ext_drew]); (try simp only [ext_ext]); repeat (first | exact Ext.refl _ | with_reducible apply Ext.add | with_reducible apply Ext.dr | apply Ext.alloc | apply Ext.ext | apply Ext.drew | refine Ext.trans ?_ (by assumption))))⟩
      case measure => simp [intOf]; omega
    · go_wp2
      go_ret
      exact ⟨rfl, (by ((try simp only [ext_drew]); (try simp only [ext_ext]); repeat (first | exact Ext.refl _ | with_reducible apply Ext.add | with_reducible apply Ext.dr | apply Ext.alloc | apply Ext.ext | apply Ext.drew | refine Ext.trans ?_ (by assumption))))⟩
set_option maxRecDepth 100000 in
set_option maxHeartbeats 2000000 in
theorem maGhosts_c (xs : List Gst) (a1 a2 : Option Addr) (n1 n2 c1 c2 : Nat) (w : World) (h1 : Re w (.sl sGst) [.slice a1 n1 c1] (.l (xs.map Gst.dat))) (h2 : Re w (.sl sGst) [.slice a2 n2 c2] (.l (xs.map Gst.dat))) (hn : n1 ≤ 2097152) :
    Calls Try.prog 49 #[.slice a1 n1 c1, .slice a2 n2 c2] w fun e w' => e = .returned (.bool true) ∧ Ext w w' := by
  obtain rfl : n1 = n2 := by rw [h1.len, h2.len]
  have H1 := hid h1
  have H2 := hid h2
  clear h1 h2
  go_enter Try.func49, Try.ntmps49
  go_wp2
  go_loopw [5] (fun i wr => ∃ k : Nat, k ≤ n1 ∧ i = .int .i64 k ∧ Ext w wr) (fun i _ => n1 - (intOf i).toNat)
  case atStart => exact ⟨0, Nat.zero_le _, rfl, Ext.refl _⟩
  case round =>
    obtain ⟨k, hk, rfl, t, rfl⟩ := hrel
    by_cases hlt : k < n1
    · obtain ⟨x, b1, o1, hx, rfl, hb1, f0, f1, f2, f3, f4, f5, f6⟩ := at_Gst H1.out hlt
      obtain ⟨y, b2, o2, hy, rfl, hb2, g0, g1, g2, g3, g4, g5, g6⟩ := at_Gst H2.out hlt
      have e : x = y := Option.some.inj (hx.symm.trans hy)
      subst e
      clear hx hy
      go_wp2
      with_reducible refine wp_region_ext (by kernel_rfl) (by kernel_rfl) ?_
      repeat (go_big_quiet_step (fail))
      refine wpQuiet_nil ?_
      rintro _ ⟨tq, rfl⟩
      go_wp2
      go_roundw
      case rel => exact ⟨k + 1, by omega, by go_num, (by ((try simp only [ext_drew]); (try simp only [ext_ext]); repeat (first | exact Ext.refl _ | with_reducible apply Ext.add | with_reducible apply Ext.dr | apply Ext.alloc | apply Ext.ext | apply Ext.drew | refine Ext.trans ?_ (by assumption))))⟩
      case measure => simp [intOf]; omega
    · go_wp2
      go_ret
      exact ⟨rfl, (by ((try simp only [ext_drew]); (try simp only [ext_ext]); repeat (first | exact Ext.refl _ | with_reducible apply Ext.add | with_reducible apply Ext.dr | apply Ext.alloc | apply Ext.ext | apply Ext.drew | refine Ext.trans ?_ (by assumption))))⟩
set_option maxRecDepth 100000 in
set_option maxHeartbeats 2000000 in
theorem maInts_c (xs : List Int) (a1 a2 : Option Addr) (n1 n2 c1 c2 : Nat) (w : World) (h1 : Re w (.sl .int) [.slice a1 n1 c1] (.l (xs.map Dat.i))) (h2 : Re w (.sl .int) [.slice a2 n2 c2] (.l (xs.map Dat.i))) (hn : n1 ≤ 2097152) :
    Calls Try.prog 24 #[.slice a1 n1 c1, .slice a2 n2 c2] w fun e w' => e = .returned (.bool true) ∧ Ext w w' := by
  obtain rfl : n1 = n2 := by rw [h1.len, h2.len]
  have H1 := hid h1
  have H2 := hid h2
  clear h1 h2
  go_enter Try.func24, Try.ntmps24
  go_wp2
  go_loopw [5] (fun i wr => ∃ k : Nat, k ≤ n1 ∧ i = .int .i64 k ∧ Ext w wr) (fun i _ => n1 - (intOf i).toNat)
  case atStart => exact ⟨0, Nat.zero_le _, rfl, Ext.refl _⟩
  case round =>
    obtain ⟨k, hk, rfl, t, rfl⟩ := hrel
    by_cases hlt : k < n1
    · obtain ⟨x, b1, o1, hx, rfl, hb1, f0⟩ := at_Int H1.out hlt
      obtain ⟨y, b2, o2, hy, rfl, hb2, g0⟩ := at_Int H2.out hlt
      have e : x = y := Option.some.inj (hx.symm.trans hy)
      subst e
      clear hx hy
      go_wp2
      with_reducible refine wp_region_ext (by kernel_rfl) (by kernel_rfl) ?_
      repeat (go_big_quiet_step (fail))
      refine wpQuiet_nil ?_
      rintro _ ⟨tq, rfl⟩
      go_wp2
      go_roundw
      case rel => exact ⟨k + 1, by omega, by go_num, (by ((try simp only [ext_drew]); (try simp only [ext_ext]); repeat (first | exact Ext.refl _ | with_reducible apply Ext.add | with_reducible apply Ext.dr | apply Ext.alloc | apply Ext.ext | apply Ext.drew | refine Ext.trans ?_ (by assumption))))⟩
      case measure => simp [intOf]; omega
    · go_wp2
      go_ret
      exact ⟨rfl, (by ((try simp only [ext_drew]); (try simp only [ext_ext]); repeat (first | exact Ext.refl _ | with_reducible apply Ext.add | with_reducible apply Ext.dr | apply Ext.alloc | apply Ext.ext | apply Ext.drew | refine Ext.trans ?_ (by assumption))))⟩
end Go.Proofs.Ytbbpipbemhggdaa
