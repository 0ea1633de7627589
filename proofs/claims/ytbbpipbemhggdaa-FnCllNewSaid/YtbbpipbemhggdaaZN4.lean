/- FnCllNew: in the beginning each is where it is; for all codes. -/
import Derived.Test.YtbbpipbemhggdaaZN1
import Derived.Test.YtbbpipbemhggdaaZN2
import Derived.Test.YtbbpipbemhggdaaZN3
namespace Go.Proofs.Ytbbpipbemhggdaa
open Go.ChangeShapes Go.WideShapes Go.ChangeAt Go.RowKit
set_option linter.unusedSimpArgs false
set_option linter.unusedVariables false

theorem bdC_Z : BdC cllZ := ⟨by simp [cllZ], by simp [cllZ], by simp [cllZ], by simp [cllZ], by simp [cllZ]⟩
theorem reC_Z (w : World) : ReC w cllZ ⟨none, 0, none, 0, none, 0, none, 0⟩ :=
  (OwnR.cll (lo := w.heap.size) (hi := w.heap.size) ⟨Nat.le_refl _, [], by simp, by simp, ownL_nil_cll w⟩)
set_option maxRecDepth 100000 in
theorem maCellZ_c (a1 a3 a4 a5 : Option Addr) (c1 c3 c4 c5 : Nat) (w : World) (hx : ReC w cllZ ⟨a1, c1, a3, c3, a4, c4, a5, c5⟩) :
    Calls Try.prog 43 #[.agg #[.int .i64 0, .slice a1 0 c1, .int .i64 0, .slice a3 0 c3, .slice a4 0 c4, .slice a5 0 c5], .agg #[.int .i64 0, .slice none 0 0, .int .i64 0, .slice none 0 0, .slice none 0 0, .slice none 0 0]] w fun e w' => e = .returned (.bool true) ∧ Ext w w' :=
  by have h := maCell_c cllZ _ _ w hx (reC_Z w) bdC_Z; simp only [cllZ, List.length_nil] at h; exact h
set_option maxRecDepth 100000 in
theorem maCellY_c (a1 a3 a4 a5 b1 b3 b4 b5 : Option Addr) (c1 c3 c4 c5 d1 d3 d4 d5 : Nat) (w : World) (hx : ReC w cllZ ⟨a1, c1, a3, c3, a4, c4, a5, c5⟩) (hx' : ReC w cllZ ⟨b1, d1, b3, d3, b4, d4, b5, d5⟩) :
    Calls Try.prog 43 #[.agg #[.int .i64 0, .slice a1 0 c1, .int .i64 0, .slice a3 0 c3, .slice a4 0 c4, .slice a5 0 c5], .agg #[.int .i64 0, .slice b1 0 d1, .int .i64 0, .slice b3 0 d3, .slice b4 0 d4, .slice b5 0 d5]] w fun e w' => e = .returned (.bool true) ∧ Ext w w' :=
  by have h := maCell_c cllZ _ _ w hx hx' bdC_Z; simp only [cllZ, List.length_nil] at h; exact h
def MadeZ (w : World) (e : Ending) (w' : World) : Prop := ∃ (a1 a3 a4 a5 : Option Addr) (c1 c3 c4 c5 : Nat), e = .returned (.agg #[.int .i64 0, .slice a1 0 c1, .int .i64 0, .slice a3 0 c3, .slice a4 0 c4, .slice a5 0 c5]) ∧ Ext w w' ∧ ReC w' cllZ ⟨a1, c1, a3, c3, a4, c4, a5, c5⟩
theorem MadeC.z {w w' : World} {e : Ending} (h : MadeC w cllZ e w') : MadeZ w e w' := by
  obtain ⟨⟨a1, c1, a3, c3, a4, c4, a5, c5⟩, h1, h2, h3⟩ := h
  exact ⟨a1, a3, a4, a5, c1, c3, c4, c5, h1, h2, h3.cll⟩
def below (m : Mp) (k : Int) (x : Wlk) : Bool := decide (plcCell m x.at_ < k)
theorem cnt_step (m : Mp) (k : Int) : ∀ xs : List Wlk, (xs.filter (below m (k + 1))).length = (xs.filter (below m k)).length + (xs.filter (homeIn m k)).length
  | [] => rfl
  | x :: r => by
    have ih := cnt_step m k r
    simp only [List.filter_cons, below, homeIn, decide_eq_true_eq] at ih ⊢
    by_cases h1 : plcCell m x.at_ < k
    · rw [if_pos (by omega), if_pos h1, if_neg (by omega)]; simp only [List.length_cons]; unfold below homeIn at *; omega
    · by_cases h2 : plcCell m x.at_ = k
      · rw [if_pos (by omega), if_neg h1, if_pos h2]; simp only [List.length_cons]; unfold below homeIn at *; omega
      · rw [if_neg (by omega), if_neg h1, if_neg h2]; exact ih
theorem cnt_none (m : Mp) (xs : List Wlk) (h : wlkAll m xs = true) : xs.filter (below m 0) = [] := by
  rw [List.filter_eq_nil_iff]
  intro x hx
  have := (wlkAll_iff.1 h).1 x hx
  simp only [wlkOk, Bool.and_eq_true] at this
  simp [below]
  have h2 := plcCell_lo m x.at_
  have h3 : plcCell m x.at_ ≠ -1 := by simp_all
  omega
theorem cnt_all (m : Mp) (xs : List Wlk) (h : wlkAll m xs = true) : xs.filter (below m m.c) = xs := by
  rw [List.filter_eq_self]
  intro x hx
  have := (wlkAll_iff.1 h).1 x hx
  simp only [wlkOk, Bool.and_eq_true] at this
  have h3 : plcCell m x.at_ ≠ -1 := by simp_all
  have := (plcCell_ne h3).2.2.2.2.2
  simp [below]; omega
theorem iCllOk_h (m : Mp) (c : Cll) (h : CllH) (b : Bool) (w : World) (hx : ReC w c h) (hb : BdC c) (hk : Hid (cllOk m c = b)) :
    Calls Try.prog 46 #[.agg #[.int .i64 m.c, .int .i64 m.w], .agg #[.int .i64 c.cell, .slice h.a1 c.wk.length h.c1, .int .i64 c.ground, .slice h.a3 c.outs.length h.c3, .slice h.a4 c.next.length h.c4, .slice h.a5 c.ins.length h.c5]] w fun e w' => e = .returned (.bool b) ∧ Ext w w' := hk.out ▸ iCllOk_c m c h w hx hb
theorem sPlcOk_hh (m : Mp) (b : Bool) (w : World) (h : Hid (plcOk m = b)) : Calls Try.prog 14 #[.agg #[.int .i64 m.c, .int .i64 m.w]] w fun e w' => e = .returned (.bool b) ∧ Ext w w' := h.out ▸ sPlcOk_c m w
theorem sWlkListOk_h (m : Mp) (xs : List Wlk) (a : Option Addr) (n c : Nat) (b : Bool) (w : World) (hx : Re w (.sl sWlk) [.slice a n c] (.l (xs.map Wlk.dat))) (hn : n ≤ 1048576) (h : Hid (wlkAll m xs = b)) :
    Calls Try.prog 45 #[.agg #[.int .i64 m.c, .int .i64 m.w], .slice a n c] w fun e w' => e = .returned (.bool b) ∧ Ext w w' := h.out ▸ sWlkListOk_c m xs a n c w hx hn
theorem cllNew_bd (m : Mp) (k : Int) (xs : List Wlk) (h : xs.length ≤ 1000) : BdC (cllNew m k xs) := by
  unfold cllNew
  cases newOk m k xs with
  | false => exact bdC_Z
  | true =>
    have := List.length_filter_le (homeIn m k) xs
    exact ⟨by show (xs.filter _).length ≤ _; omega, by simp, fun ys hy => by simp at hy; subst hy; simp, by simp, by simp⟩
set_option maxRecDepth 100000 in
set_option maxHeartbeats 4000000 in
theorem fnCllNew_walk (W : World) (a : Option Addr) (n c : Nat) (hc : n ≤ c) (hB : Bytes W.heap.size W a n) :
    Calls Try.prog 8 #[.slice a n c] W fun e W' => e = .returned (.bool true) ∧ Below W.heap.size W W' := by
  by_cases hn : (1048576 : Int) < n
  · clear hB
    go_enter Try.func8, Try.ntmps8
    try go_wp2_with (first
        | fail
        | (
          with_reducible refine wp_region_mix (by kernel_rfl) (by decide +kernel) ?_
          repeat (first
            | (refine mix_pure rfl ?_; (first | go_big_quiet_skip | (go_big_quiet_want; go_big_quiet_op; go_big_quiet_on)); refine wpQuiet_nil ?_)
            | (refine mix_skip (by rfl) ?_; (try simp only [Act.put, List.setIfInBounds_toArray, List.set_cons_zero, List.set_cons_succ]))
            | (refine mix_mk rfl (by rfl) (fun K hK => ?_); (first | (go_simp; first | skip)); (show K _ _); refine hK _ _ (show Ext _ _ from zq0) ?_; clear hK K; (try simp only [Act.put, List.setIfInBounds_toArray, List.set_cons_zero, List.set_cons_succ])))
          refine mix_nil ?_)
        | (
          with_reducible refine wp_region_ext (by kernel_rfl) (by kernel_rfl) ?_
          repeat (first | go_big_quiet_skip | (go_big_quiet_want; go_big_quiet_op; first | go_big_quiet_on | (apply Exists.intro; refine ⟨fun _ => ?_, ?_⟩; (fail); (try rw [h1]); (try rw [h2]); (try rw [h3]); (try rw [h4]); (try rw [p1]); (try rw [p2]); (try rw [p3]); (try rw [p4]); (try rw [r1]); (try rw [r2]); (try rw [r3]); (try rw [r4]); (try rw [r5]); (try rw [r6]); (try rw [q3]); (try rw [q4]); (try rw [hp]); (try rw [hq]); go_big_quiet_on)))
          refine wpQuiet_nil ?_
          rintro _ ⟨tq, rfl⟩))
    go_ret
    exact ⟨rfl, Ext.below zq0⟩
  · have HB := hid hB
    clear hB
    go_enter Try.func8, Try.ntmps8
    try go_wp2_with (first
        | (go_at_call 41; (with_reducible refine (DrawCllNew_c _ _ _ _ HB.out hc).mono ?_); rintro e w' ⟨m, k, v, xs, rfl, hm, hk, ⟨B, hrow, _, _⟩, hlen, td, rfl⟩; obtain ⟨sa, sc, rfl⟩ := hrow.slice; have HXS := hid (rowW_re hrow); clear hrow hm)
        | (
          with_reducible refine wp_region_mix (by kernel_rfl) (by decide +kernel) ?_
          repeat (first
            | (refine mix_pure rfl ?_; (first | go_big_quiet_skip | (go_big_quiet_want; go_big_quiet_op; go_big_quiet_on)); refine wpQuiet_nil ?_)
            | (refine mix_skip (by rfl) ?_; (try simp only [Act.put, List.setIfInBounds_toArray, List.set_cons_zero, List.set_cons_succ]))
            | (refine mix_mk rfl (by rfl) (fun K hK => ?_); (first | (go_simp; first | (go_at_call 41; (with_reducible refine (DrawCllNew_c _ _ _ _ HB.out hc).mono ?_); rintro e w' ⟨m, k, v, xs, rfl, hm, hk, ⟨B, hrow, _, _⟩, hlen, td, rfl⟩; obtain ⟨sa, sc, rfl⟩ := hrow.slice; have HXS := hid (rowW_re hrow); clear hrow hm) | skip)); (show K _ _); refine hK _ _ (show Ext _ _ from zq0) ?_; clear hK K; (try simp only [Act.put, List.setIfInBounds_toArray, List.set_cons_zero, List.set_cons_succ])))
          refine mix_nil ?_)
        | (
          with_reducible refine wp_region_ext (by kernel_rfl) (by kernel_rfl) ?_
          repeat (first | go_big_quiet_skip | (go_big_quiet_want; go_big_quiet_op; first | go_big_quiet_on | (apply Exists.intro; refine ⟨fun _ => ?_, ?_⟩; (fail); (try rw [h1]); (try rw [h2]); (try rw [h3]); (try rw [h4]); (try rw [p1]); (try rw [p2]); (try rw [p3]); (try rw [p4]); (try rw [r1]); (try rw [r2]); (try rw [r3]); (try rw [r4]); (try rw [r5]); (try rw [r6]); (try rw [q3]); (try rw [q4]); (try rw [hp]); (try rw [hq]); go_big_quiet_on)))
          refine wpQuiet_nil ?_
          rintro _ ⟨tq, rfl⟩))
    obtain ⟨xn, hxn⟩ : ∃ x, xs.length = x := ⟨_, rfl⟩
    rw [hxn] at HXS hlen ⊢
    have HXN := hid hxn
    clear hxn
    cases ok : plcOk m with
    | false =>
      have OK := hid ok
      have hz : cllNew m k xs = cllZ := by simp [cllNew, newOk, ok]
      clear ok
      have HS := hid (fun (a : Option Addr) (n c : Nat) (w : World) (hr : Re w (.sl sWlk) [.slice a n c] (.l (xs.map Wlk.dat))) (hn : n ≤ 1048576) => (show Calls Try.prog 44 #[.agg #[.int .i64 m.c, .int .i64 m.w], .int .i64 k, .slice a n c] w (MadeZ w) from (hz ▸ sCllNew_c m k xs a n c w hr hn : Calls _ _ _ _ (MadeC w cllZ)).mono fun _ _ h => h.z))
      have HI := hid (fun (a : Option Addr) (n c : Nat) (w : World) (hr : Re w (.sl sWlk) [.slice a n c] (.l (xs.map Wlk.dat))) (hn : n ≤ 1048576) => (show Calls Try.prog 42 #[.agg #[.int .i64 m.c, .int .i64 m.w], .int .i64 k, .slice a n c] w (MadeZ w) from (hz ▸ iCllNew_c m k xs a n c w hr hn : Calls _ _ _ _ (MadeC w cllZ)).mono fun _ _ h => h.z))
      clear hz
      try go_wp2_with (first
          | (go_at_call 14; refine (sPlcOk_hh m _ _ (by assumption)).mono ?_; rintro e w' ⟨rfl, t, rfl⟩) | (go_at_call 45; refine (sWlkListOk_h _ _ _ _ _ _ _ (Re.of (Hid.out (by assumption)) zq0) (by omega) (by assumption)).mono ?_; rintro e w' ⟨rfl, t, rfl⟩) | (go_at_call 15; refine (maOk_c _).mono ?_; rintro e w' ⟨rfl, t, rfl⟩) | (go_at_call 42; (with_reducible refine (HI.out _ _ _ _ (Re.of (Hid.out (by assumption)) zq0) (by omega)).mono ?_); rintro e w' ⟨a1, a3, a4, a5, c1, c3, c4, c5, rfl, ⟨t1, rfl⟩, ho⟩; have HZI := hid ho; clear ho) | (go_at_call 44; (with_reducible refine (HS.out _ _ _ _ (Re.of (Hid.out (by assumption)) zq0) (by omega)).mono ?_); rintro e w' ⟨b1, b3, b4, b5, d1, d3, d4, d5, rfl, ⟨t2, rfl⟩, ho⟩; have HZS := hid ho; clear ho) | (go_at_call 43; first | ((with_reducible refine (maCellZ_c a1 a3 a4 a5 c1 c3 c4 c5 _ (HZI.out.of zq0)).mono ?_); rintro e w' ⟨rfl, t3, rfl⟩) | ((with_reducible refine (maCellY_c a1 a3 a4 a5 b1 b3 b4 b5 c1 c3 c4 c5 d1 d3 d4 d5 _ (HZI.out.of zq0) (HZS.out.of zq0)).mono ?_); rintro e w' ⟨rfl, t4, rfl⟩))
          | (
            with_reducible refine wp_region_mix (by kernel_rfl) (by decide +kernel) ?_
            repeat (first
              | (refine mix_pure rfl ?_; (first | go_big_quiet_skip | (go_big_quiet_want; go_big_quiet_op; go_big_quiet_on)); refine wpQuiet_nil ?_)
              | (refine mix_skip (by rfl) ?_; (try simp only [Act.put, List.setIfInBounds_toArray, List.set_cons_zero, List.set_cons_succ]))
              | (refine mix_mk rfl (by rfl) (fun K hK => ?_); (first | (go_simp; first | (go_at_call 14; refine (sPlcOk_hh m _ _ (by assumption)).mono ?_; rintro e w' ⟨rfl, t, rfl⟩) | (go_at_call 45; refine (sWlkListOk_h _ _ _ _ _ _ _ (Re.of (Hid.out (by assumption)) zq0) (by omega) (by assumption)).mono ?_; rintro e w' ⟨rfl, t, rfl⟩) | (go_at_call 15; refine (maOk_c _).mono ?_; rintro e w' ⟨rfl, t, rfl⟩) | (go_at_call 42; (with_reducible refine (HI.out _ _ _ _ (Re.of (Hid.out (by assumption)) zq0) (by omega)).mono ?_); rintro e w' ⟨a1, a3, a4, a5, c1, c3, c4, c5, rfl, ⟨t1, rfl⟩, ho⟩; have HZI := hid ho; clear ho) | (go_at_call 44; (with_reducible refine (HS.out _ _ _ _ (Re.of (Hid.out (by assumption)) zq0) (by omega)).mono ?_); rintro e w' ⟨b1, b3, b4, b5, d1, d3, d4, d5, rfl, ⟨t2, rfl⟩, ho⟩; have HZS := hid ho; clear ho) | (go_at_call 43; first | ((with_reducible refine (maCellZ_c a1 a3 a4 a5 c1 c3 c4 c5 _ (HZI.out.of zq0)).mono ?_); rintro e w' ⟨rfl, t3, rfl⟩) | ((with_reducible refine (maCellY_c a1 a3 a4 a5 b1 b3 b4 b5 c1 c3 c4 c5 d1 d3 d4 d5 _ (HZI.out.of zq0) (HZS.out.of zq0)).mono ?_); rintro e w' ⟨rfl, t4, rfl⟩)) | skip)); (show K _ _); refine hK _ _ (show Ext _ _ from zq0) ?_; clear hK K; (try simp only [Act.put, List.setIfInBounds_toArray, List.set_cons_zero, List.set_cons_succ])))
            refine mix_nil ?_)
          | (
            with_reducible refine wp_region_ext (by kernel_rfl) (by kernel_rfl) ?_
            repeat (first | go_big_quiet_skip | (go_big_quiet_want; go_big_quiet_op; first | go_big_quiet_on | (apply Exists.intro; refine ⟨fun _ => ?_, ?_⟩; ((first | (go_at_call 14; first | exact quiet_call (sPlcOk_hh m _ _ (by assumption)) | exact quiet_call2 (sPlcOk_hh m _ _ (by assumption))) | (go_at_call 45; first | exact quiet_call (sWlkListOk_h _ _ _ _ _ _ _ (Re.of (Hid.out (by assumption)) zq0) (by omega) (by assumption)) | exact quiet_call2 (sWlkListOk_h _ _ _ _ _ _ _ (Re.of (Hid.out (by assumption)) zq0) (by omega) (by assumption))) | (go_at_call 15; first | exact quiet_call (maOk_c _) | exact quiet_call2 (maOk_c _)))); (try rw [h1]); (try rw [h2]); (try rw [h3]); (try rw [h4]); (try rw [p1]); (try rw [p2]); (try rw [p3]); (try rw [p4]); (try rw [r1]); (try rw [r2]); (try rw [r3]); (try rw [r4]); (try rw [r5]); (try rw [r6]); (try rw [q3]); (try rw [q4]); (try rw [hp]); (try rw [hq]); go_big_quiet_on)))
            refine wpQuiet_nil ?_
            rintro _ ⟨tq, rfl⟩))
      go_ret
      exact ⟨rfl, Ext.below zq0⟩
    | true =>
      have OK := hid ok
      cases al : wlkAll m xs with
      | false =>
        have AL := hid al
        have hz : cllNew m k xs = cllZ := by simp [cllNew, newOk, al]
        clear ok al
        have HS := hid (fun (a : Option Addr) (n c : Nat) (w : World) (hr : Re w (.sl sWlk) [.slice a n c] (.l (xs.map Wlk.dat))) (hn : n ≤ 1048576) => (show Calls Try.prog 44 #[.agg #[.int .i64 m.c, .int .i64 m.w], .int .i64 k, .slice a n c] w (MadeZ w) from (hz ▸ sCllNew_c m k xs a n c w hr hn : Calls _ _ _ _ (MadeC w cllZ)).mono fun _ _ h => h.z))
        have HI := hid (fun (a : Option Addr) (n c : Nat) (w : World) (hr : Re w (.sl sWlk) [.slice a n c] (.l (xs.map Wlk.dat))) (hn : n ≤ 1048576) => (show Calls Try.prog 42 #[.agg #[.int .i64 m.c, .int .i64 m.w], .int .i64 k, .slice a n c] w (MadeZ w) from (hz ▸ iCllNew_c m k xs a n c w hr hn : Calls _ _ _ _ (MadeC w cllZ)).mono fun _ _ h => h.z))
        clear hz
        try go_wp2_with (first
            | (go_at_call 14; refine (sPlcOk_hh m _ _ (by assumption)).mono ?_; rintro e w' ⟨rfl, t, rfl⟩) | (go_at_call 45; refine (sWlkListOk_h _ _ _ _ _ _ _ (Re.of (Hid.out (by assumption)) zq0) (by omega) (by assumption)).mono ?_; rintro e w' ⟨rfl, t, rfl⟩) | (go_at_call 15; refine (maOk_c _).mono ?_; rintro e w' ⟨rfl, t, rfl⟩) | (go_at_call 42; (with_reducible refine (HI.out _ _ _ _ (Re.of (Hid.out (by assumption)) zq0) (by omega)).mono ?_); rintro e w' ⟨a1, a3, a4, a5, c1, c3, c4, c5, rfl, ⟨t1, rfl⟩, ho⟩; have HZI := hid ho; clear ho) | (go_at_call 44; (with_reducible refine (HS.out _ _ _ _ (Re.of (Hid.out (by assumption)) zq0) (by omega)).mono ?_); rintro e w' ⟨b1, b3, b4, b5, d1, d3, d4, d5, rfl, ⟨t2, rfl⟩, ho⟩; have HZS := hid ho; clear ho) | (go_at_call 43; first | ((with_reducible refine (maCellZ_c a1 a3 a4 a5 c1 c3 c4 c5 _ (HZI.out.of zq0)).mono ?_); rintro e w' ⟨rfl, t3, rfl⟩) | ((with_reducible refine (maCellY_c a1 a3 a4 a5 b1 b3 b4 b5 c1 c3 c4 c5 d1 d3 d4 d5 _ (HZI.out.of zq0) (HZS.out.of zq0)).mono ?_); rintro e w' ⟨rfl, t4, rfl⟩))
            | (
              with_reducible refine wp_region_mix (by kernel_rfl) (by decide +kernel) ?_
              repeat (first
                | (refine mix_pure rfl ?_; (first | go_big_quiet_skip | (go_big_quiet_want; go_big_quiet_op; go_big_quiet_on)); refine wpQuiet_nil ?_)
                | (refine mix_skip (by rfl) ?_; (try simp only [Act.put, List.setIfInBounds_toArray, List.set_cons_zero, List.set_cons_succ]))
                | (refine mix_mk rfl (by rfl) (fun K hK => ?_); (first | (go_simp; first | (go_at_call 14; refine (sPlcOk_hh m _ _ (by assumption)).mono ?_; rintro e w' ⟨rfl, t, rfl⟩) | (go_at_call 45; refine (sWlkListOk_h _ _ _ _ _ _ _ (Re.of (Hid.out (by assumption)) zq0) (by omega) (by assumption)).mono ?_; rintro e w' ⟨rfl, t, rfl⟩) | (go_at_call 15; refine (maOk_c _).mono ?_; rintro e w' ⟨rfl, t, rfl⟩) | (go_at_call 42; (with_reducible refine (HI.out _ _ _ _ (Re.of (Hid.out (by assumption)) zq0) (by omega)).mono ?_); rintro e w' ⟨a1, a3, a4, a5, c1, c3, c4, c5, rfl, ⟨t1, rfl⟩, ho⟩; have HZI := hid ho; clear ho) | (go_at_call 44; (with_reducible refine (HS.out _ _ _ _ (Re.of (Hid.out (by assumption)) zq0) (by omega)).mono ?_); rintro e w' ⟨b1, b3, b4, b5, d1, d3, d4, d5, rfl, ⟨t2, rfl⟩, ho⟩; have HZS := hid ho; clear ho) | (go_at_call 43; first | ((with_reducible refine (maCellZ_c a1 a3 a4 a5 c1 c3 c4 c5 _ (HZI.out.of zq0)).mono ?_); rintro e w' ⟨rfl, t3, rfl⟩) | ((with_reducible refine (maCellY_c a1 a3 a4 a5 b1 b3 b4 b5 c1 c3 c4 c5 d1 d3 d4 d5 _ (HZI.out.of zq0) (HZS.out.of zq0)).mono ?_); rintro e w' ⟨rfl, t4, rfl⟩)) | skip)); (show K _ _); refine hK _ _ (show Ext _ _ from zq0) ?_; clear hK K; (try simp only [Act.put, List.setIfInBounds_toArray, List.set_cons_zero, List.set_cons_succ])))
              refine mix_nil ?_)
            | (
              with_reducible refine wp_region_ext (by kernel_rfl) (by kernel_rfl) ?_
              repeat (first | go_big_quiet_skip | (go_big_quiet_want; go_big_quiet_op; first | go_big_quiet_on | (apply Exists.intro; refine ⟨fun _ => ?_, ?_⟩; ((first | (go_at_call 14; first | exact quiet_call (sPlcOk_hh m _ _ (by assumption)) | exact quiet_call2 (sPlcOk_hh m _ _ (by assumption))) | (go_at_call 45; first | exact quiet_call (sWlkListOk_h _ _ _ _ _ _ _ (Re.of (Hid.out (by assumption)) zq0) (by omega) (by assumption)) | exact quiet_call2 (sWlkListOk_h _ _ _ _ _ _ _ (Re.of (Hid.out (by assumption)) zq0) (by omega) (by assumption))) | (go_at_call 15; first | exact quiet_call (maOk_c _) | exact quiet_call2 (maOk_c _)))); (try rw [h1]); (try rw [h2]); (try rw [h3]); (try rw [h4]); (try rw [p1]); (try rw [p2]); (try rw [p3]); (try rw [p4]); (try rw [r1]); (try rw [r2]); (try rw [r3]); (try rw [r4]); (try rw [r5]); (try rw [r6]); (try rw [q3]); (try rw [q4]); (try rw [hp]); (try rw [hq]); go_big_quiet_on)))
              refine wpQuiet_nil ?_
              rintro _ ⟨tq, rfl⟩))
        go_ret
        exact ⟨rfl, Ext.below zq0⟩
      | true =>
        have AL := hid al
        obtain ⟨⟨m1, m2⟩, m3, m4⟩ := plcOk_iff.1 ok
        have HBD := hid (fun (k : Int) => cllNew_bd m k xs (by have := HXN.out; omega))
        have HOKN := hid (fun (k : Nat) (hk : (k : Int) < m.c) => (show cllOk m (cllNew m k xs) = true ∧ (cllNew m k xs).ground = 0 ∧ (cllNew m k xs).wk = xs.filter (homeIn m k) by
          have h : newOk m k xs = true := by simp [newOk, ok, al, inB]; omega
          exact ⟨cllNew_ok h, by rw [cllNew, h]; rfl, by rw [cllNew, h]; rfl⟩))
        obtain ⟨z, hz⟩ : ∃ z, cllNew m k xs = z := ⟨_, rfl⟩
        have HBZ := hid (hz ▸ HBD.out k)
        have HS := hid (fun (a : Option Addr) (n c : Nat) (w : World) (hr : Re w (.sl sWlk) [.slice a n c] (.l (xs.map Wlk.dat))) (hn : n ≤ 1048576) => (show Calls Try.prog 44 #[.agg #[.int .i64 m.c, .int .i64 m.w], .int .i64 k, .slice a n c] w (MadeC w z) from hz ▸ sCllNew_c m k xs a n c w hr hn))
        have HI := hid (fun (a : Option Addr) (n c : Nat) (w : World) (hr : Re w (.sl sWlk) [.slice a n c] (.l (xs.map Wlk.dat))) (hn : n ≤ 1048576) => (show Calls Try.prog 42 #[.agg #[.int .i64 m.c, .int .i64 m.w], .int .i64 k, .slice a n c] w (MadeC w z) from hz ▸ iCllNew_c m k xs a n c w hr hn))
        clear ok al hz
        try go_wp2_with (first
            | (go_at_call 14; refine (sPlcOk_hh m _ _ (by assumption)).mono ?_; rintro e w' ⟨rfl, t, rfl⟩) | (go_at_call 45; refine (sWlkListOk_h _ _ _ _ _ _ _ (Re.of (Hid.out (by assumption)) zq0) (by omega) (by assumption)).mono ?_; rintro e w' ⟨rfl, t, rfl⟩) | (go_at_call 43; refine (maCell_c _ _ _ _ (ReC.of (Hid.out (by assumption)) zq0) (ReC.of (Hid.out (by assumption)) zq0) (Hid.out (by assumption))).mono ?_; rintro e w' ⟨rfl, t, rfl⟩) | (go_at_call 42; (with_reducible refine (HI.out _ _ _ _ (Re.of (Hid.out (by assumption)) zq0) (by omega)).mono ?_); rintro e w' ⟨h1, rfl, ⟨t1, rfl⟩, ho⟩; have HZI := hid ho.cll; clear ho) | (go_at_call 44; (with_reducible refine (HS.out _ _ _ _ (Re.of (Hid.out (by assumption)) zq0) (by omega)).mono ?_); rintro e w' ⟨h2, rfl, ⟨t2, rfl⟩, ho⟩; have HZS := hid ho.cll; clear ho)
            | (
              with_reducible refine wp_region_mix (by kernel_rfl) (by decide +kernel) ?_
              repeat (first
                | (refine mix_pure rfl ?_; (first | go_big_quiet_skip | (go_big_quiet_want; go_big_quiet_op; go_big_quiet_on)); refine wpQuiet_nil ?_)
                | (refine mix_skip (by rfl) ?_; (try simp only [Act.put, List.setIfInBounds_toArray, List.set_cons_zero, List.set_cons_succ]))
                | (refine mix_mk rfl (by rfl) (fun K hK => ?_); (first | (go_simp; first | (go_at_call 14; refine (sPlcOk_hh m _ _ (by assumption)).mono ?_; rintro e w' ⟨rfl, t, rfl⟩) | (go_at_call 45; refine (sWlkListOk_h _ _ _ _ _ _ _ (Re.of (Hid.out (by assumption)) zq0) (by omega) (by assumption)).mono ?_; rintro e w' ⟨rfl, t, rfl⟩) | (go_at_call 43; refine (maCell_c _ _ _ _ (ReC.of (Hid.out (by assumption)) zq0) (ReC.of (Hid.out (by assumption)) zq0) (Hid.out (by assumption))).mono ?_; rintro e w' ⟨rfl, t, rfl⟩) | (go_at_call 42; (with_reducible refine (HI.out _ _ _ _ (Re.of (Hid.out (by assumption)) zq0) (by omega)).mono ?_); rintro e w' ⟨h1, rfl, ⟨t1, rfl⟩, ho⟩; have HZI := hid ho.cll; clear ho) | (go_at_call 44; (with_reducible refine (HS.out _ _ _ _ (Re.of (Hid.out (by assumption)) zq0) (by omega)).mono ?_); rintro e w' ⟨h2, rfl, ⟨t2, rfl⟩, ho⟩; have HZS := hid ho.cll; clear ho) | skip)); (show K _ _); refine hK _ _ (show Ext _ _ from zq0) ?_; clear hK K; (try simp only [Act.put, List.setIfInBounds_toArray, List.set_cons_zero, List.set_cons_succ])))
              refine mix_nil ?_)
            | (
              with_reducible refine wp_region_ext (by kernel_rfl) (by kernel_rfl) ?_
              repeat (first | go_big_quiet_skip | (go_big_quiet_want; go_big_quiet_op; first | go_big_quiet_on | (apply Exists.intro; refine ⟨fun _ => ?_, ?_⟩; ((first | (go_at_call 14; first | exact quiet_call (sPlcOk_hh m _ _ (by assumption)) | exact quiet_call2 (sPlcOk_hh m _ _ (by assumption))) | (go_at_call 45; first | exact quiet_call (sWlkListOk_h _ _ _ _ _ _ _ (Re.of (Hid.out (by assumption)) zq0) (by omega) (by assumption)) | exact quiet_call2 (sWlkListOk_h _ _ _ _ _ _ _ (Re.of (Hid.out (by assumption)) zq0) (by omega) (by assumption))) | (go_at_call 43; first | exact quiet_call (maCell_c _ _ _ _ (ReC.of (Hid.out (by assumption)) zq0) (ReC.of (Hid.out (by assumption)) zq0) (Hid.out (by assumption))) | exact quiet_call2 (maCell_c _ _ _ _ (ReC.of (Hid.out (by assumption)) zq0) (ReC.of (Hid.out (by assumption)) zq0) (Hid.out (by assumption)))))); (try rw [h1]); (try rw [h2]); (try rw [h3]); (try rw [h4]); (try rw [p1]); (try rw [p2]); (try rw [p3]); (try rw [p4]); (try rw [r1]); (try rw [r2]); (try rw [r3]); (try rw [r4]); (try rw [r5]); (try rw [r6]); (try rw [q3]); (try rw [q4]); (try rw [hp]); (try rw [hq]); go_big_quiet_on)))
              refine wpQuiet_nil ?_
              rintro _ ⟨tq, rfl⟩))
        refine wp_gen fun V hV => ?_
        obtain ⟨M, hM⟩ : ∃ M, W.heap.size + td.bs.size = M := ⟨_, rfl⟩
        have EV : Ext W V := by rw [hV]; ((try simp only [ext_drew]); (try simp only [ext_ext]); repeat (first | exact Ext.refl _ | with_reducible apply Ext.add | with_reducible apply Ext.dr | apply Ext.alloc | apply Ext.ext | apply Ext.drew | refine Ext.trans ?_ (by assumption)))
        have HX2 := hid (show Re V (.sl sWlk) [.slice sa xn sc] (.l (xs.map Wlk.dat)) by rw [hV]; exact HXS.out.of zq0)
        have cM0 : V.cell? ⟨M, 0, none⟩ = some (.int .i64 m.c) := by rw [hV, ← hM]; simp [go_sem]
        have cM1 : V.cell? ⟨M, 1, none⟩ = some (.int .i64 m.w) := by rw [hV, ← hM]; simp [go_sem]
        have lM : M < V.heap.size := by rw [hV, ← hM]; ((try simp [go_sem]) <;> (try simp [Xt.add]) <;> omega)
        rw [hM]
        clear hV hM HXS HZI HZS HS HI HBZ
        go_loopw [7, 8, 9] (fun v i _ wr => ∃ (k q : Nat), (k : Int) ≤ m.c ∧ i = .int .i64 k ∧ v = .int .i64 q ∧ q ≤ 1000 ∧ q = (xs.filter (below m k)).length ∧ Ext V wr) (fun _ i _ _ => (m.c - intOf i).toNat)
        case atStart => exact ⟨0, 0, by omega, rfl, rfl, by omega, by rw [show ((0 : Nat) : Int) = 0 from rfl, cnt_none m xs AL.out]; rfl, zq0⟩
        case round =>
          obtain ⟨k, q, hk, rfl, rfl, hq0, hq, t9, rfl⟩ := hrel
          have HQ := hid hq
          clear hq
          by_cases hlt : (k : Int) < m.c
          · obtain ⟨e1, e2, e3⟩ := HOKN.out k hlt
            obtain ⟨z, hz⟩ : ∃ z, cllNew m k xs = z := ⟨_, rfl⟩
            rw [hz] at e1 e2 e3
            have HBZ := hid (hz ▸ HBD.out k)
            have HI := hid (fun (a : Option Addr) (n c : Nat) (w : World) (hr : Re w (.sl sWlk) [.slice a n c] (.l (xs.map Wlk.dat))) (hn : n ≤ 1048576) => (show Calls Try.prog 42 #[.agg #[.int .i64 m.c, .int .i64 m.w], .int .i64 k, .slice a n c] w (MadeC w z) from hz ▸ iCllNew_c m k xs a n c w hr hn))
            have HE1 := hid e1
            have hstep : (xs.filter (below m ((k + 1 : Nat) : Int))).length = q + z.wk.length := by rw [e3, HQ.out, ← cnt_step]; rfl
            have hle := List.length_filter_le (below m ((k + 1 : Nat) : Int)) xs
            have g0 : (z.ground != 0) = false := bne_f e2
            have hql : q + z.wk.length ≤ 1000 := by rw [← hstep]; have := HXN.out; omega
            have HST := hid hstep
            clear e1 e2 e3 hz hstep hle
            try go_wp2_with (first
                | (go_at_call 46; refine (iCllOk_h _ _ _ _ _ (ReC.of (Hid.out (by assumption)) zq0) (Hid.out (by assumption)) (by assumption)).mono ?_; rintro e w' ⟨rfl, t, rfl⟩) | (go_at_call 42; (with_reducible refine (HI.out _ _ _ _ (Re.of (Hid.out (by assumption)) zq0) (by omega)).mono ?_); rintro e w' ⟨h1, rfl, ⟨t1, rfl⟩, ho⟩; have HZI := hid ho.cll; clear ho)
                | (
                  with_reducible refine wp_region_mix (by kernel_rfl) (by decide +kernel) ?_
                  repeat (first
                    | (refine mix_pure rfl ?_; (first | go_big_quiet_skip | (go_big_quiet_want; go_big_quiet_op; go_big_quiet_on)); refine wpQuiet_nil ?_)
                    | (refine mix_skip (by rfl) ?_; (try simp only [Act.put, List.setIfInBounds_toArray, List.set_cons_zero, List.set_cons_succ]))
                    | (refine mix_mk rfl (by rfl) (fun K hK => ?_); (first | (go_simp; first | (go_at_call 46; refine (iCllOk_h _ _ _ _ _ (ReC.of (Hid.out (by assumption)) zq0) (Hid.out (by assumption)) (by assumption)).mono ?_; rintro e w' ⟨rfl, t, rfl⟩) | (go_at_call 42; (with_reducible refine (HI.out _ _ _ _ (Re.of (Hid.out (by assumption)) zq0) (by omega)).mono ?_); rintro e w' ⟨h1, rfl, ⟨t1, rfl⟩, ho⟩; have HZI := hid ho.cll; clear ho) | skip)); (show K _ _); refine hK _ _ (show Ext _ _ from zq0) ?_; clear hK K; (try simp only [Act.put, List.setIfInBounds_toArray, List.set_cons_zero, List.set_cons_succ])))
                  refine mix_nil ?_)
                | (
                  with_reducible refine wp_region_ext (by kernel_rfl) (by kernel_rfl) ?_
                  repeat (first | go_big_quiet_skip | (go_big_quiet_want; go_big_quiet_op; first | go_big_quiet_on | (apply Exists.intro; refine ⟨fun _ => ?_, ?_⟩; ((first | (go_at_call 46; first | exact quiet_call (iCllOk_h _ _ _ _ _ (ReC.of (Hid.out (by assumption)) zq0) (Hid.out (by assumption)) (by assumption)) | exact quiet_call2 (iCllOk_h _ _ _ _ _ (ReC.of (Hid.out (by assumption)) zq0) (Hid.out (by assumption)) (by assumption))))); (try rw [h1]); (try rw [h2]); (try rw [h3]); (try rw [h4]); (try rw [p1]); (try rw [p2]); (try rw [p3]); (try rw [p4]); (try rw [r1]); (try rw [r2]); (try rw [r3]); (try rw [r4]); (try rw [r5]); (try rw [r6]); (try rw [q3]); (try rw [q4]); (try rw [hp]); (try rw [hq]); go_big_quiet_on)))
                  refine wpQuiet_nil ?_
                  rintro _ ⟨tq, rfl⟩))
            go_roundw
            case rel => exact ⟨k + 1, q + z.wk.length, by omega, by go_num, by go_num, hql, HST.out.symm, zq0⟩
            case measure => simp [intOf]; omega
          · have hkm : (k : Int) = m.c := by omega
            have hqx : q = xn := by rw [HQ.out, hkm, cnt_all m xs AL.out]; exact HXN.out
            subst hqx
            try go_wp2_with (first
                | fail
                | (
                  with_reducible refine wp_region_mix (by kernel_rfl) (by decide +kernel) ?_
                  repeat (first
                    | (refine mix_pure rfl ?_; (first | go_big_quiet_skip | (go_big_quiet_want; go_big_quiet_op; go_big_quiet_on)); refine wpQuiet_nil ?_)
                    | (refine mix_skip (by rfl) ?_; (try simp only [Act.put, List.setIfInBounds_toArray, List.set_cons_zero, List.set_cons_succ]))
                    | (refine mix_mk rfl (by rfl) (fun K hK => ?_); (first | (go_simp; first | skip)); (show K _ _); refine hK _ _ (show Ext _ _ from zq0) ?_; clear hK K; (try simp only [Act.put, List.setIfInBounds_toArray, List.set_cons_zero, List.set_cons_succ])))
                  refine mix_nil ?_)
                | (
                  with_reducible refine wp_region_ext (by kernel_rfl) (by kernel_rfl) ?_
                  repeat (first | go_big_quiet_skip | (go_big_quiet_want; go_big_quiet_op; first | go_big_quiet_on | (apply Exists.intro; refine ⟨fun _ => ?_, ?_⟩; (fail); (try rw [h1]); (try rw [h2]); (try rw [h3]); (try rw [h4]); (try rw [p1]); (try rw [p2]); (try rw [p3]); (try rw [p4]); (try rw [r1]); (try rw [r2]); (try rw [r3]); (try rw [r4]); (try rw [r5]); (try rw [r6]); (try rw [q3]); (try rw [q4]); (try rw [hp]); (try rw [hq]); go_big_quiet_on)))
                  refine wpQuiet_nil ?_
                  rintro _ ⟨tq, rfl⟩))
            go_ret
            exact ⟨rfl, Ext.below (EV.trans zq0)⟩

set_option maxRecDepth 100000 in
theorem fnCllNew_lifted (os : Os) (started : os.Started) (H : Type) (enc : TypeId × Value → H) :
    ReturnsInHanded {} Try.checked os 8 .any (Rows.fnCllNewSpec.pre6 enc Try.prog Try.f8 Rows.fnCllNewRow.domain false) (Rows.fnCllNewSpec.post enc Try.prog Try.f8 false true false false) := by
  refine returnsInHanded_of_change (C := Try.checked) own_knob started (by kernel_rfl) Try.func8
    (ChangeSpec.witness6 (enc := enc) (C := Try.checked) false ⟨#[], #[.slice none 0 0], []⟩ 8 (by kernel_rfl) (by kernel_rfl) (by kernel_rfl) (by kernel_rfl)) ?_
  intro W base args ds gs before hval0 hW _ _
  have hval : ∀ (j : Nat) t v, Try.f8.params[j]? = some t → args[j]? = some v → Value.okWide Try.prog W .any base t v := hval0
  have hfin : ∀ W', Below W.heap.size W W' → Rows.fnCllNewSpec.post enc Try.prog Try.f8 false true false false W args (.bool true) W' := fun W' hb =>
    law_post laid_out rfl bool_ty rfl (by kernel_rfl) hW (fun ds h => by match ds, h with | [_], _ => rfl) hb
  suffices hwalk : Calls Try.prog 8 args W fun e W' => e = .returned (.bool true) ∧ Below W.heap.size W W' by
    refine hwalk.mono fun e W' ⟨he, hb⟩ => ?_
    subst he
    exact ⟨_, rfl, hfin W' hb⟩
  clear hfin
  obtain ⟨p, q, hA0, hV, _, hfz, hnd⟩ := hW
  have hA : DataW.TrodAll enc Try.prog W 0 (fun _ => true) true Try.f8.params.toList args.toList ds p := hA0
  clear hA0 hval0 hV hfz hnd
  rw [Try.params8] at hA hval
  obtain ⟨v0, vs0, d0, ds0, p0, q0, hargs0, _, _, h0, r0⟩ := trodAll_cons hA
  obtain ⟨hnil, _, _⟩ := trodAll_nil r0
  obtain rfl : args = #[v0] := by cases args; simp_all
  clear hargs0 hnil
  obtain ⟨code_a, code_n, code_c, rfl⟩ := okWide_slice Try.underlying22 (hval 0 22 v0 rfl rfl)
  obtain ⟨hb0, hd0⟩ := open_bytes h0
  exact fnCllNew_walk W code_a code_n code_c hb0 hd0

theorem fnCllNew_holds : Rows.FnCllNewSaid :=
  OpenClaim.holds_of_wide 8 Try.f8 rfl rfl rfl rfl rfl rfl rfl ⟨rfl, rfl, rfl, rfl, rfl⟩ rfl rfl rfl rfl rfl (by kernel_rfl) Try.func8 (by kernel_rfl)
    (of_decide_eq_true (by kernel_rfl)) (by unfold Func.isWrapper; rw [if_neg (by decide +kernel)]; exact ⟨rfl, rfl⟩)
    (fun os started H enc _ => fnCllNew_lifted os started H enc)


end Go.Proofs.Ytbbpipbemhggdaa

