/- FnGstPut: the latest ghost is kept, in whichever order ghosts come; for all codes. -/
import Derived.Test.YtbbpipbemhggdaaZG1
import Derived.Test.YtbbpipbemhggdaaZG2
import Derived.Test.YtbbpipbemhggdaaZG3
import Derived.Test.YtbbpipbemhggdaaZG4
namespace Go.Proofs.Ytbbpipbemhggdaa
open Go.ChangeShapes Go.WideShapes Go.ChangeAt Go.RowKit
set_option linter.unusedSimpArgs false
set_option linter.unusedVariables false

theorem iGstPut_h (m : Mp) (xs ys : List Gst) (yn : Nat) (g : Gst) (a : Option Addr) (n c : Nat) (w : World) (hx : Re w (.sl sGst) [.slice a n c] (.l (xs.map Gst.dat))) (hn : n ≤ 1048576) (h : Hid (gstPutV m xs g = ys)) (hl : Hid (ys.length = yn)) :
    Calls Try.prog 48 #[.agg #[.int .i64 m.c, .int .i64 m.w], .slice a n c, .agg #[.int .i64 g.src, .int .i64 g.count, .int .i64 g.wk.id, .int .i64 g.wk.at_, .int .i64 g.wk.coins, .int .i64 g.wk.seq, .int .i64 g.wk.last]] w (MadeL w sGst yn (ys.map Gst.dat)) := hl.out ▸ h.out ▸ iGstPut_m m xs g a n c w hx hn
theorem sGstPut_h (m : Mp) (xs ys : List Gst) (yn : Nat) (g : Gst) (a : Option Addr) (n c : Nat) (w : World) (hx : Re w (.sl sGst) [.slice a n c] (.l (xs.map Gst.dat))) (hn : n ≤ 1048576) (h : Hid (gstPutV m xs g = ys)) (hl : Hid (ys.length = yn)) :
    Calls Try.prog 50 #[.agg #[.int .i64 m.c, .int .i64 m.w], .slice a n c, .agg #[.int .i64 g.src, .int .i64 g.count, .int .i64 g.wk.id, .int .i64 g.wk.at_, .int .i64 g.wk.coins, .int .i64 g.wk.seq, .int .i64 g.wk.last]] w (MadeL w sGst yn (ys.map Gst.dat)) := hl.out ▸ h.out ▸ sGstPut_m m xs g a n c w hx hn
theorem sGstListOk_h (m : Mp) (xs : List Gst) (a : Option Addr) (n c : Nat) (g : Bool) (w : World) (hx : Re w (.sl sGst) [.slice a n c] (.l (xs.map Gst.dat))) (hn : n ≤ 1048576) (hg : Hid ((gstAll m xs && decide ((n : Int) ≤ 20)) = g)) :
    Calls Try.prog 51 #[.agg #[.int .i64 m.c, .int .i64 m.w], .slice a n c] w fun e w' => e = .returned (.bool g) ∧ Ext w w' := sGstListOk_g m xs a n c g w hx hn hg.out
theorem iGstListOk_h (m : Mp) (xs : List Gst) (a : Option Addr) (n c : Nat) (g : Bool) (w : World) (hx : Re w (.sl sGst) [.slice a n c] (.l (xs.map Gst.dat))) (hn : n ≤ 1048576) (hg : Hid ((gstAll m xs && (plcOk m && decide ((n : Int) ≤ 20))) = g)) :
    Calls Try.prog 53 #[.agg #[.int .i64 m.c, .int .i64 m.w], .slice a n c] w fun e w' => e = .returned (.bool g) ∧ Ext w w' := iGstListOk_g m xs a n c g w hx hn hg.out
theorem sGstOk_h (m : Mp) (x : Gst) (b : Bool) (w : World) (h : Hid (gstOk m x = b)) : Calls Try.prog 52 #[.agg #[.int .i64 m.c, .int .i64 m.w], .agg #[.int .i64 x.src, .int .i64 x.count, .int .i64 x.wk.id, .int .i64 x.wk.at_, .int .i64 x.wk.coins, .int .i64 x.wk.seq, .int .i64 x.wk.last]] w fun e w' => e = .returned (.bool b) ∧ Ext w w' := h.out ▸ sGstOk_c m x w
theorem ext_of {w w' : World} {b i : Nat} {v : Value} (hE : Ext w w') (h : w.cell? ⟨b, i, none⟩ = some v) : w'.cell? ⟨b, i, none⟩ = some v := by
  obtain ⟨t, rfl⟩ := hE
  rw [ext_cell' w t b i (by have := block_lt_of_cell h; simpa using this)]
  exact h
theorem gst_turn {m : Mp} {gs gc gi ga gn gq gl cm co : Int} (h : gstOk m ⟨gs, gc, ⟨gi, ga, gn, gq, gl⟩⟩ = true) (h1 : 0 ≤ cm ∧ cm ≤ 250) (h2 : 0 ≤ co ∧ co ≤ 99) : gstOk m ⟨gs, cm, ⟨gi, ga, co, gq, gl⟩⟩ = true := by
  simp only [gstOk, wlkOk, Bool.and_eq_true] at h ⊢
  obtain ⟨⟨⟨a1, a2, a3⟩, a4⟩, a5⟩ := h
  refine ⟨⟨⟨inB_iff.2 h1, a2, ?_⟩, a4⟩, a5⟩
  simp only [ranged, Bool.and_eq_true, inB_iff] at a3 ⊢
  omega
set_option maxRecDepth 100000 in
set_option maxHeartbeats 4000000 in
theorem fnGstPut_walk (W : World) (a : Option Addr) (n c : Nat) (hc : n ≤ c) (hB : Bytes W.heap.size W a n) (a2 : Option Addr) (n2 c2 : Nat) (hc2 : n2 ≤ c2) (hB2 : Bytes W.heap.size W a2 n2) :
    Calls Try.prog 9 #[.slice a n c, .slice a2 n2 c2] W fun e W' => e = .returned (.bool true) ∧ Below W.heap.size W W' := by
  clear hB2
  by_cases hn : (1048576 : Int) < n
  · clear hB
    go_enter Try.func9, Try.ntmps9
    try go_wp2_with (first
        | fail
        | (
          with_reducible refine wp_region_mix (by kernel_rfl) (by decide +kernel) ?_
          repeat (first
            | (refine mix_pure rfl ?_; (first | go_big_quiet_skip | (go_big_quiet_want; go_big_quiet_op; go_big_quiet_on)); refine wpQuiet_nil ?_)
            | (refine mix_skip (by rfl) ?_; (try simp only [Act.put, List.setIfInBounds_toArray, List.set_cons_zero, List.set_cons_succ]))
            | (refine mix_mk rfl (by rfl) (fun K hK => ?_); (first | (go_simp; first | skip)); (show K _ _); refine hK _ _ (show Ext _ _ from zq0) ?_; clear hK K; (try simp only [Act.put, List.setIfInBounds_toArray, List.set_cons_zero, List.set_cons_succ])))
          refine mix_nil ?_)
        | (
          with_reducible refine wp_region_ext (by kernel_rfl) (by kernel_rfl) ?_
          repeat (first | go_big_quiet_skip | (go_big_quiet_want; go_big_quiet_op; first | go_big_quiet_on | (apply Exists.intro; refine ⟨fun _ => ?_, ?_⟩; (fail); (try rw [h1]); (try rw [h2]); (try rw [h3]); (try rw [h4]); (try rw [p1]); (try rw [p2]); (try rw [p3]); (try rw [p4]); (try rw [r1]); (try rw [r2]); (try rw [r3]); (try rw [r4]); (try rw [r5]); (try rw [r6]); (try rw [q3]); (try rw [q4]); (try rw [hp]); (try rw [hq]); go_big_quiet_on)))
          refine wpQuiet_nil ?_
          rintro _ ⟨tq, rfl⟩))
    go_ret
    exact ⟨rfl, Ext.below zq0⟩
  · by_cases hn2 : (1048576 : Int) < n2
    · clear hB
      go_enter Try.func9, Try.ntmps9
      try go_wp2_with (first
          | fail
          | (
            with_reducible refine wp_region_mix (by kernel_rfl) (by decide +kernel) ?_
            repeat (first
              | (refine mix_pure rfl ?_; (first | go_big_quiet_skip | (go_big_quiet_want; go_big_quiet_op; go_big_quiet_on)); refine wpQuiet_nil ?_)
              | (refine mix_skip (by rfl) ?_; (try simp only [Act.put, List.setIfInBounds_toArray, List.set_cons_zero, List.set_cons_succ]))
              | (refine mix_mk rfl (by rfl) (fun K hK => ?_); (first | (go_simp; first | skip)); (show K _ _); refine hK _ _ (show Ext _ _ from zq0) ?_; clear hK K; (try simp only [Act.put, List.setIfInBounds_toArray, List.set_cons_zero, List.set_cons_succ])))
            refine mix_nil ?_)
          | (
            with_reducible refine wp_region_ext (by kernel_rfl) (by kernel_rfl) ?_
            repeat (first | go_big_quiet_skip | (go_big_quiet_want; go_big_quiet_op; first | go_big_quiet_on | (apply Exists.intro; refine ⟨fun _ => ?_, ?_⟩; (fail); (try rw [h1]); (try rw [h2]); (try rw [h3]); (try rw [h4]); (try rw [p1]); (try rw [p2]); (try rw [p3]); (try rw [p4]); (try rw [r1]); (try rw [r2]); (try rw [r3]); (try rw [r4]); (try rw [r5]); (try rw [r6]); (try rw [q3]); (try rw [q4]); (try rw [hp]); (try rw [hq]); go_big_quiet_on)))
            refine wpQuiet_nil ?_
            rintro _ ⟨tq, rfl⟩))
      go_ret
      exact ⟨rfl, Ext.below zq0⟩
    · have HB := hid hB
      clear hB
      go_enter Try.func9, Try.ntmps9
      try go_wp2_with (first
          | (go_at_call 47; (with_reducible refine (DrawGstPut_c _ _ _ _ HB.out hc).mono ?_); rintro e w' ⟨m, v, xs, ⟨gs, gc, ⟨gi, ga, gn, gq, gl⟩⟩, rfl, ⟨B, hrow, _⟩, hlen, td, rfl⟩; obtain ⟨sa, sc, rfl⟩ := hrow.slice; have HXS := hid (rowG_re hrow); clear hrow)
          | (
            with_reducible refine wp_region_mix (by kernel_rfl) (by decide +kernel) ?_
            repeat (first
              | (refine mix_pure rfl ?_; (first | go_big_quiet_skip | (go_big_quiet_want; go_big_quiet_op; go_big_quiet_on)); refine wpQuiet_nil ?_)
              | (refine mix_skip (by rfl) ?_; (try simp only [Act.put, List.setIfInBounds_toArray, List.set_cons_zero, List.set_cons_succ]))
              | (refine mix_mk rfl (by rfl) (fun K hK => ?_); (first | (go_simp; first | (go_at_call 47; (with_reducible refine (DrawGstPut_c _ _ _ _ HB.out hc).mono ?_); rintro e w' ⟨m, v, xs, ⟨gs, gc, ⟨gi, ga, gn, gq, gl⟩⟩, rfl, ⟨B, hrow, _⟩, hlen, td, rfl⟩; obtain ⟨sa, sc, rfl⟩ := hrow.slice; have HXS := hid (rowG_re hrow); clear hrow) | skip)); (show K _ _); refine hK _ _ (show Ext _ _ from zq0) ?_; clear hK K; (try simp only [Act.put, List.setIfInBounds_toArray, List.set_cons_zero, List.set_cons_succ])))
            refine mix_nil ?_)
          | (
            with_reducible refine wp_region_ext (by kernel_rfl) (by kernel_rfl) ?_
            repeat (first | go_big_quiet_skip | (go_big_quiet_want; go_big_quiet_op; first | go_big_quiet_on | (apply Exists.intro; refine ⟨fun _ => ?_, ?_⟩; (fail); (try rw [h1]); (try rw [h2]); (try rw [h3]); (try rw [h4]); (try rw [p1]); (try rw [p2]); (try rw [p3]); (try rw [p4]); (try rw [r1]); (try rw [r2]); (try rw [r3]); (try rw [r4]); (try rw [r5]); (try rw [r6]); (try rw [q3]); (try rw [q4]); (try rw [hp]); (try rw [hq]); go_big_quiet_on)))
            refine wpQuiet_nil ?_
            rintro _ ⟨tq, rfl⟩))
      obtain ⟨xn, hxn⟩ : ∃ x, xs.length = x := ⟨_, rfl⟩
      rw [hxn] at HXS hlen ⊢
      have HXN := hid hxn
      clear hxn
      cases q1 : (gstAll m xs && decide ((xn : Int) ≤ 20)) with
      | false =>
        have HQ := hid q1
        have hbad : gstPutV m xs ⟨gs, gc, ⟨gi, ga, gn, gq, gl⟩⟩ = [] := by
          rw [gstPutV, if_neg]
          intro h
          simp only [Bool.and_eq_true, decide_eq_true_eq] at h
          have := HXN.out
          rw [h.1.1] at q1
          simp at q1
          omega
        clear q1
        have HP := hid (show gstPutV m xs ⟨gs, gc, ⟨gi, ga, gn, gq, gl⟩⟩ = [] from hbad)
        have HL0 := hid (show ([] : List Gst).length = 0 from rfl)
        clear hbad
        try go_wp2_with (first
            | (go_at_call 48; refine (iGstPut_h m _ _ _ ⟨_, _, ⟨_, _, _, _, _⟩⟩ _ _ _ _ (Re.of (Hid.out (by assumption)) zq0) (by omega) (by assumption) (by assumption)).mono ?_; rintro e w' ⟨a, c, rfl, ⟨t, rfl⟩, ho⟩; have hR := hid ho.re; clear ho) | (go_at_call 50; refine (sGstPut_h m _ _ _ ⟨_, _, ⟨_, _, _, _, _⟩⟩ _ _ _ _ (Re.of (Hid.out (by assumption)) zq0) (by omega) (by assumption) (by assumption)).mono ?_; rintro e w' ⟨a, c, rfl, ⟨t, rfl⟩, ho⟩; have hR := hid ho.re; clear ho) | (go_at_call 51; refine (sGstListOk_h m _ _ _ _ _ _ (Re.of (Hid.out (by assumption)) zq0) (by omega) (by assumption)).mono ?_; rintro e w' ⟨rfl, t, rfl⟩) | (go_at_call 52; refine (sGstOk_h m ⟨_, _, ⟨_, _, _, _, _⟩⟩ _ _ (by assumption)).mono ?_; rintro e w' ⟨rfl, t, rfl⟩) | (go_at_call 49; refine (maGhosts_c _ _ _ _ _ _ _ _ (Re.of (Hid.out (by assumption)) zq0) (Re.of (Hid.out (by assumption)) zq0) (by omega)).mono ?_; rintro e w' ⟨rfl, t, rfl⟩) | (go_at_call 15; refine (maOk_c _).mono ?_; rintro e w' ⟨rfl, t, rfl⟩)
            | (
              with_reducible refine wp_region_mix (by kernel_rfl) (by decide +kernel) ?_
              repeat (first
                | (refine mix_pure rfl ?_; (first | go_big_quiet_skip | (go_big_quiet_want; go_big_quiet_op; go_big_quiet_on)); refine wpQuiet_nil ?_)
                | (refine mix_skip (by rfl) ?_; (try simp only [Act.put, List.setIfInBounds_toArray, List.set_cons_zero, List.set_cons_succ]))
                | (refine mix_mk rfl (by rfl) (fun K hK => ?_); (first | (go_simp; first | (go_at_call 48; refine (iGstPut_h m _ _ _ ⟨_, _, ⟨_, _, _, _, _⟩⟩ _ _ _ _ (Re.of (Hid.out (by assumption)) zq0) (by omega) (by assumption) (by assumption)).mono ?_; rintro e w' ⟨a, c, rfl, ⟨t, rfl⟩, ho⟩; have hR := hid ho.re; clear ho) | (go_at_call 50; refine (sGstPut_h m _ _ _ ⟨_, _, ⟨_, _, _, _, _⟩⟩ _ _ _ _ (Re.of (Hid.out (by assumption)) zq0) (by omega) (by assumption) (by assumption)).mono ?_; rintro e w' ⟨a, c, rfl, ⟨t, rfl⟩, ho⟩; have hR := hid ho.re; clear ho) | (go_at_call 51; refine (sGstListOk_h m _ _ _ _ _ _ (Re.of (Hid.out (by assumption)) zq0) (by omega) (by assumption)).mono ?_; rintro e w' ⟨rfl, t, rfl⟩) | (go_at_call 52; refine (sGstOk_h m ⟨_, _, ⟨_, _, _, _, _⟩⟩ _ _ (by assumption)).mono ?_; rintro e w' ⟨rfl, t, rfl⟩) | (go_at_call 49; refine (maGhosts_c _ _ _ _ _ _ _ _ (Re.of (Hid.out (by assumption)) zq0) (Re.of (Hid.out (by assumption)) zq0) (by omega)).mono ?_; rintro e w' ⟨rfl, t, rfl⟩) | (go_at_call 15; refine (maOk_c _).mono ?_; rintro e w' ⟨rfl, t, rfl⟩) | skip)); (show K _ _); refine hK _ _ (show Ext _ _ from zq0) ?_; clear hK K; (try simp only [Act.put, List.setIfInBounds_toArray, List.set_cons_zero, List.set_cons_succ])))
              refine mix_nil ?_)
            | (
              with_reducible refine wp_region_ext (by kernel_rfl) (by kernel_rfl) ?_
              repeat (first | go_big_quiet_skip | (go_big_quiet_want; go_big_quiet_op; first | go_big_quiet_on | (apply Exists.intro; refine ⟨fun _ => ?_, ?_⟩; ((first | (go_at_call 48; first | exact quiet_call (iGstPut_h m _ _ _ ⟨_, _, ⟨_, _, _, _, _⟩⟩ _ _ _ _ (Re.of (Hid.out (by assumption)) zq0) (by omega) (by assumption) (by assumption)) | exact quiet_call2 (iGstPut_h m _ _ _ ⟨_, _, ⟨_, _, _, _, _⟩⟩ _ _ _ _ (Re.of (Hid.out (by assumption)) zq0) (by omega) (by assumption) (by assumption))) | (go_at_call 50; first | exact quiet_call (sGstPut_h m _ _ _ ⟨_, _, ⟨_, _, _, _, _⟩⟩ _ _ _ _ (Re.of (Hid.out (by assumption)) zq0) (by omega) (by assumption) (by assumption)) | exact quiet_call2 (sGstPut_h m _ _ _ ⟨_, _, ⟨_, _, _, _, _⟩⟩ _ _ _ _ (Re.of (Hid.out (by assumption)) zq0) (by omega) (by assumption) (by assumption))) | (go_at_call 51; first | exact quiet_call (sGstListOk_h m _ _ _ _ _ _ (Re.of (Hid.out (by assumption)) zq0) (by omega) (by assumption)) | exact quiet_call2 (sGstListOk_h m _ _ _ _ _ _ (Re.of (Hid.out (by assumption)) zq0) (by omega) (by assumption))) | (go_at_call 52; first | exact quiet_call (sGstOk_h m ⟨_, _, ⟨_, _, _, _, _⟩⟩ _ _ (by assumption)) | exact quiet_call2 (sGstOk_h m ⟨_, _, ⟨_, _, _, _, _⟩⟩ _ _ (by assumption))) | (go_at_call 49; first | exact quiet_call (maGhosts_c _ _ _ _ _ _ _ _ (Re.of (Hid.out (by assumption)) zq0) (Re.of (Hid.out (by assumption)) zq0) (by omega)) | exact quiet_call2 (maGhosts_c _ _ _ _ _ _ _ _ (Re.of (Hid.out (by assumption)) zq0) (Re.of (Hid.out (by assumption)) zq0) (by omega))) | (go_at_call 15; first | exact quiet_call (maOk_c _) | exact quiet_call2 (maOk_c _)))); (try rw [h1]); (try rw [h2]); (try rw [h3]); (try rw [h4]); (try rw [p1]); (try rw [p2]); (try rw [p3]); (try rw [p4]); (try rw [r1]); (try rw [r2]); (try rw [r3]); (try rw [r4]); (try rw [r5]); (try rw [r6]); (try rw [q3]); (try rw [q4]); (try rw [hp]); (try rw [hq]); go_big_quiet_on)))
              refine wpQuiet_nil ?_
              rintro _ ⟨tq, rfl⟩))
        go_ret
        exact ⟨rfl, Ext.below zq0⟩
      | true =>
        have HQ := hid q1
        cases q2 : gstOk m ⟨gs, gc, ⟨gi, ga, gn, gq, gl⟩⟩ with
        | false =>
          have HQ2 := hid q2
          have hbad : gstPutV m xs ⟨gs, gc, ⟨gi, ga, gn, gq, gl⟩⟩ = [] := by
            rw [gstPutV, if_neg]
            simp [q2]
          clear q1 q2
          have HP := hid (show gstPutV m xs ⟨gs, gc, ⟨gi, ga, gn, gq, gl⟩⟩ = [] from hbad)
          have HL0 := hid (show ([] : List Gst).length = 0 from rfl)
          clear hbad
          try go_wp2_with (first
              | (go_at_call 48; refine (iGstPut_h m _ _ _ ⟨_, _, ⟨_, _, _, _, _⟩⟩ _ _ _ _ (Re.of (Hid.out (by assumption)) zq0) (by omega) (by assumption) (by assumption)).mono ?_; rintro e w' ⟨a, c, rfl, ⟨t, rfl⟩, ho⟩; have hR := hid ho.re; clear ho) | (go_at_call 50; refine (sGstPut_h m _ _ _ ⟨_, _, ⟨_, _, _, _, _⟩⟩ _ _ _ _ (Re.of (Hid.out (by assumption)) zq0) (by omega) (by assumption) (by assumption)).mono ?_; rintro e w' ⟨a, c, rfl, ⟨t, rfl⟩, ho⟩; have hR := hid ho.re; clear ho) | (go_at_call 51; refine (sGstListOk_h m _ _ _ _ _ _ (Re.of (Hid.out (by assumption)) zq0) (by omega) (by assumption)).mono ?_; rintro e w' ⟨rfl, t, rfl⟩) | (go_at_call 52; refine (sGstOk_h m ⟨_, _, ⟨_, _, _, _, _⟩⟩ _ _ (by assumption)).mono ?_; rintro e w' ⟨rfl, t, rfl⟩) | (go_at_call 49; refine (maGhosts_c _ _ _ _ _ _ _ _ (Re.of (Hid.out (by assumption)) zq0) (Re.of (Hid.out (by assumption)) zq0) (by omega)).mono ?_; rintro e w' ⟨rfl, t, rfl⟩) | (go_at_call 15; refine (maOk_c _).mono ?_; rintro e w' ⟨rfl, t, rfl⟩)
              | (
                with_reducible refine wp_region_mix (by kernel_rfl) (by decide +kernel) ?_
                repeat (first
                  | (refine mix_pure rfl ?_; (first | go_big_quiet_skip | (go_big_quiet_want; go_big_quiet_op; go_big_quiet_on)); refine wpQuiet_nil ?_)
                  | (refine mix_skip (by rfl) ?_; (try simp only [Act.put, List.setIfInBounds_toArray, List.set_cons_zero, List.set_cons_succ]))
                  | (refine mix_mk rfl (by rfl) (fun K hK => ?_); (first | (go_simp; first | (go_at_call 48; refine (iGstPut_h m _ _ _ ⟨_, _, ⟨_, _, _, _, _⟩⟩ _ _ _ _ (Re.of (Hid.out (by assumption)) zq0) (by omega) (by assumption) (by assumption)).mono ?_; rintro e w' ⟨a, c, rfl, ⟨t, rfl⟩, ho⟩; have hR := hid ho.re; clear ho) | (go_at_call 50; refine (sGstPut_h m _ _ _ ⟨_, _, ⟨_, _, _, _, _⟩⟩ _ _ _ _ (Re.of (Hid.out (by assumption)) zq0) (by omega) (by assumption) (by assumption)).mono ?_; rintro e w' ⟨a, c, rfl, ⟨t, rfl⟩, ho⟩; have hR := hid ho.re; clear ho) | (go_at_call 51; refine (sGstListOk_h m _ _ _ _ _ _ (Re.of (Hid.out (by assumption)) zq0) (by omega) (by assumption)).mono ?_; rintro e w' ⟨rfl, t, rfl⟩) | (go_at_call 52; refine (sGstOk_h m ⟨_, _, ⟨_, _, _, _, _⟩⟩ _ _ (by assumption)).mono ?_; rintro e w' ⟨rfl, t, rfl⟩) | (go_at_call 49; refine (maGhosts_c _ _ _ _ _ _ _ _ (Re.of (Hid.out (by assumption)) zq0) (Re.of (Hid.out (by assumption)) zq0) (by omega)).mono ?_; rintro e w' ⟨rfl, t, rfl⟩) | (go_at_call 15; refine (maOk_c _).mono ?_; rintro e w' ⟨rfl, t, rfl⟩) | skip)); (show K _ _); refine hK _ _ (show Ext _ _ from zq0) ?_; clear hK K; (try simp only [Act.put, List.setIfInBounds_toArray, List.set_cons_zero, List.set_cons_succ])))
                refine mix_nil ?_)
              | (
                with_reducible refine wp_region_ext (by kernel_rfl) (by kernel_rfl) ?_
                repeat (first | go_big_quiet_skip | (go_big_quiet_want; go_big_quiet_op; first | go_big_quiet_on | (apply Exists.intro; refine ⟨fun _ => ?_, ?_⟩; ((first | (go_at_call 48; first | exact quiet_call (iGstPut_h m _ _ _ ⟨_, _, ⟨_, _, _, _, _⟩⟩ _ _ _ _ (Re.of (Hid.out (by assumption)) zq0) (by omega) (by assumption) (by assumption)) | exact quiet_call2 (iGstPut_h m _ _ _ ⟨_, _, ⟨_, _, _, _, _⟩⟩ _ _ _ _ (Re.of (Hid.out (by assumption)) zq0) (by omega) (by assumption) (by assumption))) | (go_at_call 50; first | exact quiet_call (sGstPut_h m _ _ _ ⟨_, _, ⟨_, _, _, _, _⟩⟩ _ _ _ _ (Re.of (Hid.out (by assumption)) zq0) (by omega) (by assumption) (by assumption)) | exact quiet_call2 (sGstPut_h m _ _ _ ⟨_, _, ⟨_, _, _, _, _⟩⟩ _ _ _ _ (Re.of (Hid.out (by assumption)) zq0) (by omega) (by assumption) (by assumption))) | (go_at_call 51; first | exact quiet_call (sGstListOk_h m _ _ _ _ _ _ (Re.of (Hid.out (by assumption)) zq0) (by omega) (by assumption)) | exact quiet_call2 (sGstListOk_h m _ _ _ _ _ _ (Re.of (Hid.out (by assumption)) zq0) (by omega) (by assumption))) | (go_at_call 52; first | exact quiet_call (sGstOk_h m ⟨_, _, ⟨_, _, _, _, _⟩⟩ _ _ (by assumption)) | exact quiet_call2 (sGstOk_h m ⟨_, _, ⟨_, _, _, _, _⟩⟩ _ _ (by assumption))) | (go_at_call 49; first | exact quiet_call (maGhosts_c _ _ _ _ _ _ _ _ (Re.of (Hid.out (by assumption)) zq0) (Re.of (Hid.out (by assumption)) zq0) (by omega)) | exact quiet_call2 (maGhosts_c _ _ _ _ _ _ _ _ (Re.of (Hid.out (by assumption)) zq0) (Re.of (Hid.out (by assumption)) zq0) (by omega))) | (go_at_call 15; first | exact quiet_call (maOk_c _) | exact quiet_call2 (maOk_c _)))); (try rw [h1]); (try rw [h2]); (try rw [h3]); (try rw [h4]); (try rw [p1]); (try rw [p2]); (try rw [p3]); (try rw [p4]); (try rw [r1]); (try rw [r2]); (try rw [r3]); (try rw [r4]); (try rw [r5]); (try rw [r6]); (try rw [q3]); (try rw [q4]); (try rw [hp]); (try rw [hq]); go_big_quiet_on)))
                refine wpQuiet_nil ?_
                rintro _ ⟨tq, rfl⟩))
          go_ret
          exact ⟨rfl, Ext.below zq0⟩
        | true =>
          have HQ2 := hid q2
          obtain ⟨ys, hys⟩ : ∃ y, gstPutV m xs ⟨gs, gc, ⟨gi, ga, gn, gq, gl⟩⟩ = y := ⟨_, rfl⟩
          have hyl : ys.length ≤ 21 := hys ▸ gstPutV_len2 m xs _
          obtain ⟨yn, hyn⟩ : ∃ x, ys.length = x := ⟨_, rfl⟩
          rw [hyn] at hyl
          have HP := hid hys
          have HYN := hid hyn
          clear q1 q2 hys hyn
          try go_wp2_with (first
              | (go_at_call 50; refine (sGstPut_h m _ _ _ ⟨_, _, ⟨_, _, _, _, _⟩⟩ _ _ _ _ (Re.of (Hid.out (by assumption)) zq0) (by omega) (by assumption) (by assumption)).mono ?_; rintro e w' ⟨a, c, rfl, ⟨t, rfl⟩, ho⟩; have hR := hid ho.re; clear ho) | (go_at_call 51; refine (sGstListOk_h m _ _ _ _ _ _ (Re.of (Hid.out (by assumption)) zq0) (by omega) (by assumption)).mono ?_; rintro e w' ⟨rfl, t, rfl⟩) | (go_at_call 52; refine (sGstOk_h m ⟨_, _, ⟨_, _, _, _, _⟩⟩ _ _ (by assumption)).mono ?_; rintro e w' ⟨rfl, t, rfl⟩) | (go_at_call 49; refine (maGhosts_c _ _ _ _ _ _ _ _ (Re.of (Hid.out (by assumption)) zq0) (Re.of (Hid.out (by assumption)) zq0) (by omega)).mono ?_; rintro e w' ⟨rfl, t, rfl⟩) | (go_at_call 15; refine (maOk_c _).mono ?_; rintro e w' ⟨rfl, t, rfl⟩) | (go_at_call 48; (with_reducible refine (iGstPut_h m _ _ _ ⟨_, _, ⟨_, _, _, _, _⟩⟩ _ _ _ _ (Re.of (Hid.out (by assumption)) zq0) (by omega) (by assumption) (by assumption)).mono ?_); rintro e w' ⟨ai, ci, rfl, ⟨ti, rfl⟩, ho⟩; have HY := hid ho.re; clear ho)
              | (
                with_reducible refine wp_region_mix (by kernel_rfl) (by decide +kernel) ?_
                repeat (first
                  | (refine mix_pure rfl ?_; (first | go_big_quiet_skip | (go_big_quiet_want; go_big_quiet_op; go_big_quiet_on)); refine wpQuiet_nil ?_)
                  | (refine mix_skip (by rfl) ?_; (try simp only [Act.put, List.setIfInBounds_toArray, List.set_cons_zero, List.set_cons_succ]))
                  | (refine mix_mk rfl (by rfl) (fun K hK => ?_); (first | (go_simp; first | (go_at_call 50; refine (sGstPut_h m _ _ _ ⟨_, _, ⟨_, _, _, _, _⟩⟩ _ _ _ _ (Re.of (Hid.out (by assumption)) zq0) (by omega) (by assumption) (by assumption)).mono ?_; rintro e w' ⟨a, c, rfl, ⟨t, rfl⟩, ho⟩; have hR := hid ho.re; clear ho) | (go_at_call 51; refine (sGstListOk_h m _ _ _ _ _ _ (Re.of (Hid.out (by assumption)) zq0) (by omega) (by assumption)).mono ?_; rintro e w' ⟨rfl, t, rfl⟩) | (go_at_call 52; refine (sGstOk_h m ⟨_, _, ⟨_, _, _, _, _⟩⟩ _ _ (by assumption)).mono ?_; rintro e w' ⟨rfl, t, rfl⟩) | (go_at_call 49; refine (maGhosts_c _ _ _ _ _ _ _ _ (Re.of (Hid.out (by assumption)) zq0) (Re.of (Hid.out (by assumption)) zq0) (by omega)).mono ?_; rintro e w' ⟨rfl, t, rfl⟩) | (go_at_call 15; refine (maOk_c _).mono ?_; rintro e w' ⟨rfl, t, rfl⟩) | (go_at_call 48; (with_reducible refine (iGstPut_h m _ _ _ ⟨_, _, ⟨_, _, _, _, _⟩⟩ _ _ _ _ (Re.of (Hid.out (by assumption)) zq0) (by omega) (by assumption) (by assumption)).mono ?_); rintro e w' ⟨ai, ci, rfl, ⟨ti, rfl⟩, ho⟩; have HY := hid ho.re; clear ho) | skip)); (show K _ _); refine hK _ _ (show Ext _ _ from zq0) ?_; clear hK K; (try simp only [Act.put, List.setIfInBounds_toArray, List.set_cons_zero, List.set_cons_succ])))
                refine mix_nil ?_)
              | (
                with_reducible refine wp_region_ext (by kernel_rfl) (by kernel_rfl) ?_
                repeat (first | go_big_quiet_skip | (go_big_quiet_want; go_big_quiet_op; first | go_big_quiet_on | (apply Exists.intro; refine ⟨fun _ => ?_, ?_⟩; ((first | (go_at_call 50; first | exact quiet_call (sGstPut_h m _ _ _ ⟨_, _, ⟨_, _, _, _, _⟩⟩ _ _ _ _ (Re.of (Hid.out (by assumption)) zq0) (by omega) (by assumption) (by assumption)) | exact quiet_call2 (sGstPut_h m _ _ _ ⟨_, _, ⟨_, _, _, _, _⟩⟩ _ _ _ _ (Re.of (Hid.out (by assumption)) zq0) (by omega) (by assumption) (by assumption))) | (go_at_call 51; first | exact quiet_call (sGstListOk_h m _ _ _ _ _ _ (Re.of (Hid.out (by assumption)) zq0) (by omega) (by assumption)) | exact quiet_call2 (sGstListOk_h m _ _ _ _ _ _ (Re.of (Hid.out (by assumption)) zq0) (by omega) (by assumption))) | (go_at_call 52; first | exact quiet_call (sGstOk_h m ⟨_, _, ⟨_, _, _, _, _⟩⟩ _ _ (by assumption)) | exact quiet_call2 (sGstOk_h m ⟨_, _, ⟨_, _, _, _, _⟩⟩ _ _ (by assumption))) | (go_at_call 49; first | exact quiet_call (maGhosts_c _ _ _ _ _ _ _ _ (Re.of (Hid.out (by assumption)) zq0) (Re.of (Hid.out (by assumption)) zq0) (by omega)) | exact quiet_call2 (maGhosts_c _ _ _ _ _ _ _ _ (Re.of (Hid.out (by assumption)) zq0) (Re.of (Hid.out (by assumption)) zq0) (by omega))) | (go_at_call 15; first | exact quiet_call (maOk_c _) | exact quiet_call2 (maOk_c _)))); (try rw [h1]); (try rw [h2]); (try rw [h3]); (try rw [h4]); (try rw [p1]); (try rw [p2]); (try rw [p3]); (try rw [p4]); (try rw [r1]); (try rw [r2]); (try rw [r3]); (try rw [r4]); (try rw [r5]); (try rw [r6]); (try rw [q3]); (try rw [q4]); (try rw [hp]); (try rw [hq]); go_big_quiet_on)))
                refine wpQuiet_nil ?_
                rintro _ ⟨tq, rfl⟩))
          refine wp_gen fun V hV => ?_
          obtain ⟨M, hM⟩ : ∃ M, W.heap.size + td.bs.size = M := ⟨_, rfl⟩
          obtain ⟨G, hG⟩ : ∃ G, W.heap.size + td.bs.size + 1 = G := ⟨_, rfl⟩
          have EV : Ext W V := by rw [hV]; ((try simp only [ext_drew]); (try simp only [ext_ext]); repeat (first | exact Ext.refl _ | with_reducible apply Ext.add | with_reducible apply Ext.dr | apply Ext.alloc | apply Ext.ext | apply Ext.drew | refine Ext.trans ?_ (by assumption)))
          have HX2 := hid (show Re V (.sl sGst) [.slice sa xn sc] (.l (xs.map Gst.dat)) by rw [hV]; exact HXS.out.of zq0)
          have HY2 := hid (show Re V (.sl sGst) [.slice ai yn ci] (.l (ys.map Gst.dat)) by rw [hV]; exact HY.out.of zq0)
          have cM0 : V.cell? ⟨M, 0, none⟩ = some (.int .i64 m.c) := by rw [hV, ← hM]; simp [go_sem]
          have cM1 : V.cell? ⟨M, 1, none⟩ = some (.int .i64 m.w) := by rw [hV, ← hM]; simp [go_sem]
          have cG0 : V.cell? ⟨G, 0, none⟩ = some (.int .i64 gs) := by rw [hV, ← hG]; simp [go_sem]
          have cG1 : V.cell? ⟨G, 1, none⟩ = some (.int .i64 gc) := by rw [hV, ← hG]; simp [go_sem]
          have cG2 : V.cell? ⟨G, 2, none⟩ = some (.int .i64 gi) := by rw [hV, ← hG]; simp [go_sem]
          have cG3 : V.cell? ⟨G, 3, none⟩ = some (.int .i64 ga) := by rw [hV, ← hG]; simp [go_sem]
          have cG4 : V.cell? ⟨G, 4, none⟩ = some (.int .i64 gn) := by rw [hV, ← hG]; simp [go_sem]
          have cG5 : V.cell? ⟨G, 5, none⟩ = some (.int .i64 gq) := by rw [hV, ← hG]; simp [go_sem]
          have cG6 : V.cell? ⟨G, 6, none⟩ = some (.int .i64 gl) := by rw [hV, ← hG]; simp [go_sem]
          have lM : M < V.heap.size := by rw [hV, ← hM]; ((try simp [go_sem]) <;> (try simp [Xt.add]) <;> omega)
          have lG : G < V.heap.size := by rw [hV, ← hG]; ((try simp [go_sem]) <;> (try simp [Xt.add]) <;> omega)
          rw [hG, hM]
          clear hV hM hG HXS HY
          have hxl : xs.length ≤ 20 := by have := HQ.out; simp only [Bool.and_eq_true, decide_eq_true_eq] at this; have := HXN.out; omega
          have hall : gstAll m xs = true := by have := HQ.out; simp only [Bool.and_eq_true] at this; exact this.1
          have HLAW := hid (fun (f : Gst) (hf : gstOk m f = true) (hk : f.src = gs ∧ f.wk.id = gi) => put_law (f := f) hall hxl HQ2.out hf hk HP.out)
          clear hxl hall
          go_loopw [9, 10] (fun kv i wr => ∃ (k : Nat) (kb : Bool), k ≤ yn ∧ i = .int .i64 k ∧ kv = .bool kb ∧ (ys.take k).any (sameG ⟨gs, gc, ⟨gi, ga, gn, gq, gl⟩⟩) = kb ∧ Ext V wr) (fun _ i _ => yn - (intOf i).toNat)
          case atStart => exact ⟨0, false, by omega, rfl, rfl, by simp, zq0⟩
          case round =>
            obtain ⟨k, kb, hk, rfl, rfl, hkb, t9, rfl⟩ := hrel
            have HKB := hid hkb
            clear hkb
            by_cases hlt : k < yn
            · obtain ⟨x, b1, o1, hxk, rfl, hb1, f0, f1, f2, f3, f4, f5, f6⟩ := at_Gst HY2.out hlt
              have HK := hid hxk
              have hst := hid (show (ys.take (k + 1)).any (sameG ⟨gs, gc, ⟨gi, ga, gn, gq, gl⟩⟩) = (kb || sameG ⟨gs, gc, ⟨gi, ga, gn, gq, gl⟩⟩ x) by rw [List.take_add_one, hxk, List.any_append, HKB.out]; simp)
              have hlat := (HLAW.out _ HQ2.out ⟨rfl, rfl⟩).2.1 x (List.mem_of_getElem? hxk)
              clear hxk
              cases h1 : (x.src == gs) with
              | false =>
                have hs := hid (show sameG ⟨gs, gc, ⟨gi, ga, gn, gq, gl⟩⟩ x = false by simp [sameG, h1])
                clear hlat
                try go_wp2_with (first
                    | fail
                    | (
                      with_reducible refine wp_region_mix (by kernel_rfl) (by decide +kernel) ?_
                      repeat (first
                        | (refine mix_pure rfl ?_; (first | go_big_quiet_skip | (go_big_quiet_want; go_big_quiet_op; go_big_quiet_on)); refine wpQuiet_nil ?_)
                        | (refine mix_skip (by rfl) ?_; (try simp only [Act.put, List.setIfInBounds_toArray, List.set_cons_zero, List.set_cons_succ]))
                        | (refine mix_mk rfl (by rfl) (fun K hK => ?_); (first | (go_simp; first | skip)); (show K _ _); refine hK _ _ (show Ext _ _ from zq0) ?_; clear hK K; (try simp only [Act.put, List.setIfInBounds_toArray, List.set_cons_zero, List.set_cons_succ])))
                      refine mix_nil ?_)
                    | (
                      with_reducible refine wp_region_ext (by kernel_rfl) (by kernel_rfl) ?_
                      repeat (first | go_big_quiet_skip | (go_big_quiet_want; go_big_quiet_op; first | go_big_quiet_on | (apply Exists.intro; refine ⟨fun _ => ?_, ?_⟩; (fail); (try rw [h1]); (try rw [h2]); (try rw [h3]); (try rw [h4]); (try rw [p1]); (try rw [p2]); (try rw [p3]); (try rw [p4]); (try rw [r1]); (try rw [r2]); (try rw [r3]); (try rw [r4]); (try rw [r5]); (try rw [r6]); (try rw [q3]); (try rw [q4]); (try rw [hp]); (try rw [hq]); go_big_quiet_on)))
                      refine wpQuiet_nil ?_
                      rintro _ ⟨tq, rfl⟩))
                go_roundw
                case rel => exact ⟨k + 1, kb, by omega, by go_num, rfl, by rw [hst.out, hs.out]; simp, zq0⟩
                case measure => simp [intOf]; omega
              | true =>
                cases h2 : (x.wk.id == gi) with
                | false =>
                  have hs := hid (show sameG ⟨gs, gc, ⟨gi, ga, gn, gq, gl⟩⟩ x = false by simp [sameG, h1, h2])
                  clear hlat
                  try go_wp2_with (first
                      | fail
                      | (
                        with_reducible refine wp_region_mix (by kernel_rfl) (by decide +kernel) ?_
                        repeat (first
                          | (refine mix_pure rfl ?_; (first | go_big_quiet_skip | (go_big_quiet_want; go_big_quiet_op; go_big_quiet_on)); refine wpQuiet_nil ?_)
                          | (refine mix_skip (by rfl) ?_; (try simp only [Act.put, List.setIfInBounds_toArray, List.set_cons_zero, List.set_cons_succ]))
                          | (refine mix_mk rfl (by rfl) (fun K hK => ?_); (first | (go_simp; first | skip)); (show K _ _); refine hK _ _ (show Ext _ _ from zq0) ?_; clear hK K; (try simp only [Act.put, List.setIfInBounds_toArray, List.set_cons_zero, List.set_cons_succ])))
                        refine mix_nil ?_)
                      | (
                        with_reducible refine wp_region_ext (by kernel_rfl) (by kernel_rfl) ?_
                        repeat (first | go_big_quiet_skip | (go_big_quiet_want; go_big_quiet_op; first | go_big_quiet_on | (apply Exists.intro; refine ⟨fun _ => ?_, ?_⟩; (fail); (try rw [h1]); (try rw [h2]); (try rw [h3]); (try rw [h4]); (try rw [p1]); (try rw [p2]); (try rw [p3]); (try rw [p4]); (try rw [r1]); (try rw [r2]); (try rw [r3]); (try rw [r4]); (try rw [r5]); (try rw [r6]); (try rw [q3]); (try rw [q4]); (try rw [hp]); (try rw [hq]); go_big_quiet_on)))
                        refine wpQuiet_nil ?_
                        rintro _ ⟨tq, rfl⟩))
                  go_roundw
                  case rel => exact ⟨k + 1, kb, by omega, by go_num, rfl, by rw [hst.out, hs.out]; simp, zq0⟩
                  case measure => simp [intOf]; omega
                | true =>
                  have hs1 : sameG ⟨gs, gc, ⟨gi, ga, gn, gq, gl⟩⟩ x = true := by simp only [sameG, h1, h2]; rfl
                  have h3 : ¬ x.count < gc := hlat hs1
                  have hs := hid hs1
                  clear hlat hs1
                  try go_wp2_with (first
                      | fail
                      | (
                        with_reducible refine wp_region_mix (by kernel_rfl) (by decide +kernel) ?_
                        repeat (first
                          | (refine mix_pure rfl ?_; (first | go_big_quiet_skip | (go_big_quiet_want; go_big_quiet_op; go_big_quiet_on)); refine wpQuiet_nil ?_)
                          | (refine mix_skip (by rfl) ?_; (try simp only [Act.put, List.setIfInBounds_toArray, List.set_cons_zero, List.set_cons_succ]))
                          | (refine mix_mk rfl (by rfl) (fun K hK => ?_); (first | (go_simp; first | skip)); (show K _ _); refine hK _ _ (show Ext _ _ from zq0) ?_; clear hK K; (try simp only [Act.put, List.setIfInBounds_toArray, List.set_cons_zero, List.set_cons_succ])))
                        refine mix_nil ?_)
                      | (
                        with_reducible refine wp_region_ext (by kernel_rfl) (by kernel_rfl) ?_
                        repeat (first | go_big_quiet_skip | (go_big_quiet_want; go_big_quiet_op; first | go_big_quiet_on | (apply Exists.intro; refine ⟨fun _ => ?_, ?_⟩; (fail); (try rw [h1]); (try rw [h2]); (try rw [h3]); (try rw [h4]); (try rw [p1]); (try rw [p2]); (try rw [p3]); (try rw [p4]); (try rw [r1]); (try rw [r2]); (try rw [r3]); (try rw [r4]); (try rw [r5]); (try rw [r6]); (try rw [q3]); (try rw [q4]); (try rw [hp]); (try rw [hq]); go_big_quiet_on)))
                        refine wpQuiet_nil ?_
                        rintro _ ⟨tq, rfl⟩))
                  go_roundw
                  case rel => exact ⟨k + 1, true, by omega, by go_num, rfl, by rw [hst.out, hs.out]; simp, zq0⟩
                  case measure => simp [intOf]; omega
            · obtain rfl : k = yn := by omega
              have hfin := (HLAW.out _ HQ2.out ⟨rfl, rfl⟩).2.2.1
              rw [List.take_of_length_le (by have := HYN.out; omega)] at HKB
              rw [HKB.out, HXN.out] at hfin
              try go_wp2_with (first
                  | fail
                  | (
                    with_reducible refine wp_region_mix (by kernel_rfl) (by decide +kernel) ?_
                    repeat (first
                      | (refine mix_pure rfl ?_; (first | go_big_quiet_skip | (go_big_quiet_want; go_big_quiet_op; go_big_quiet_on)); refine wpQuiet_nil ?_)
                      | (refine mix_skip (by rfl) ?_; (try simp only [Act.put, List.setIfInBounds_toArray, List.set_cons_zero, List.set_cons_succ]))
                      | (refine mix_mk rfl (by rfl) (fun K hK => ?_); (first | (go_simp; first | skip)); (show K _ _); refine hK _ _ (show Ext _ _ from zq0) ?_; clear hK K; (try simp only [Act.put, List.setIfInBounds_toArray, List.set_cons_zero, List.set_cons_succ])))
                    refine mix_nil ?_)
                  | (
                    with_reducible refine wp_region_ext (by kernel_rfl) (by kernel_rfl) ?_
                    repeat (first | go_big_quiet_skip | (go_big_quiet_want; go_big_quiet_op; first | go_big_quiet_on | (apply Exists.intro; refine ⟨fun _ => ?_, ?_⟩; (fail); (try rw [h1]); (try rw [h2]); (try rw [h3]); (try rw [h4]); (try rw [p1]); (try rw [p2]); (try rw [p3]); (try rw [p4]); (try rw [r1]); (try rw [r2]); (try rw [r3]); (try rw [r4]); (try rw [r5]); (try rw [r6]); (try rw [q3]); (try rw [q4]); (try rw [hp]); (try rw [hq]); go_big_quiet_on)))
                    refine wpQuiet_nil ?_
                    rintro _ ⟨tq, rfl⟩))
              refine wp_gen fun U hU => ?_
              obtain ⟨cm, hcm⟩ : ∃ x, (n2 : Int) % 9 = x := ⟨_, rfl⟩
              obtain ⟨co, hco⟩ : ∃ x, (n2 : Int) % 7 = x := ⟨_, rfl⟩
              have hcm1 : 0 ≤ cm ∧ cm ≤ 250 := by omega
              have hco1 : 0 ≤ co ∧ co ≤ 99 := by omega
              rw [hcm, hco] at hU
              obtain ⟨P, hP⟩ : ∃ P, V.heap.size + t9.bs.size = P := ⟨_, rfl⟩
              rw [hP]
              have EU : Ext V U := by rw [hU]; ((try simp only [ext_drew]); (try simp only [ext_ext]); repeat (first | exact Ext.refl _ | with_reducible apply Ext.add | with_reducible apply Ext.dr | apply Ext.alloc | apply Ext.ext | apply Ext.drew | refine Ext.trans ?_ (by assumption)))
              have HU := hid EU
              have bP : U.heap[P]? = some (oGst ⟨gs, cm, ⟨gi, ga, co, gq, gl⟩⟩) := by rw [hU, ← hP]; exact zq3
              have cP0 : U.cell? ⟨P, 0, none⟩ = some (.int .i64 (Gst.mk gs cm (Wlk.mk gi ga co gq gl)).src) := (cell_blk bP 0).trans rfl
              have cP1 : U.cell? ⟨P, 1, none⟩ = some (.int .i64 (Gst.mk gs cm (Wlk.mk gi ga co gq gl)).count) := (cell_blk bP 1).trans rfl
              have cP2 : U.cell? ⟨P, 2, none⟩ = some (.int .i64 (Gst.mk gs cm (Wlk.mk gi ga co gq gl)).wk.id) := (cell_blk bP 2).trans rfl
              have cP3 : U.cell? ⟨P, 3, none⟩ = some (.int .i64 (Gst.mk gs cm (Wlk.mk gi ga co gq gl)).wk.at_) := (cell_blk bP 3).trans rfl
              have cP4 : U.cell? ⟨P, 4, none⟩ = some (.int .i64 (Gst.mk gs cm (Wlk.mk gi ga co gq gl)).wk.coins) := (cell_blk bP 4).trans rfl
              have cP5 : U.cell? ⟨P, 5, none⟩ = some (.int .i64 (Gst.mk gs cm (Wlk.mk gi ga co gq gl)).wk.seq) := (cell_blk bP 5).trans rfl
              have cP6 : U.cell? ⟨P, 6, none⟩ = some (.int .i64 (Gst.mk gs cm (Wlk.mk gi ga co gq gl)).wk.last) := (cell_blk bP 6).trans rfl
              have zcP0 := frozen_blk bP 0
              have zcP1 := frozen_blk bP 1
              have zcP2 := frozen_blk bP 2
              have zcP3 := frozen_blk bP 3
              have zcP4 := frozen_blk bP 4
              have zcP5 := frozen_blk bP 5
              have zcP6 := frozen_blk bP 6
              have lP := lt_blk bP
              have cM0 := (ext_of EU cM0)
              have cM1 := (ext_of EU cM1)
              have cG0 := (ext_of EU cG0)
              have cG1 := (ext_of EU cG1)
              have cG2 := (ext_of EU cG2)
              have cG3 := (ext_of EU cG3)
              have cG4 := (ext_of EU cG4)
              have cG5 := (ext_of EU cG5)
              have cG6 := (ext_of EU cG6)
              have lM := Nat.lt_of_lt_of_le lM EU.size
              have lG := Nat.lt_of_lt_of_le lG EU.size
              have HX3 := hid (HX2.out.of EU)
              have HY3 := hid (HY2.out.of EU)
              have EW := hid (EV.trans EU)
              have hf := gst_turn HQ2.out hcm1 hco1
              obtain ⟨⟨l1, l2⟩, _, _, l5, l6⟩ := HLAW.out ⟨gs, cm, ⟨gi, ga, co, gq, gl⟩⟩ hf ⟨rfl, rfl⟩
              have hpo : plcOk m = true := by
                cases hp : plcOk m with
                | true => rfl
                | false => rw [gstOk_plc hp] at hf; cases hf
              have HLK := hid (show (gstAll m ys && (plcOk m && decide ((k : Int) ≤ 20))) = true by rw [l1, hpo]; have := HYN.out; simp; omega)
              have HP5 := hid l5
              obtain ⟨us, hus⟩ : ∃ y, gstPutV m ys ⟨gs, cm, ⟨gi, ga, co, gq, gl⟩⟩ = y := ⟨_, rfl⟩
              obtain ⟨vs, hvs⟩ : ∃ y, gstPutV m xs ⟨gs, cm, ⟨gi, ga, co, gq, gl⟩⟩ = y := ⟨_, rfl⟩
              obtain ⟨bs, hbs⟩ : ∃ y, gstPutV m vs ⟨gs, gc, ⟨gi, ga, gn, gq, gl⟩⟩ = y := ⟨_, rfl⟩
              obtain ⟨an, han⟩ : ∃ x, us.length = x := ⟨_, rfl⟩
              obtain ⟨vn, hvn⟩ : ∃ x, vs.length = x := ⟨_, rfl⟩
              obtain ⟨bn, hbn⟩ : ∃ x, bs.length = x := ⟨_, rfl⟩
              have hal : an ≤ 21 := by rw [← han, ← hus]; exact gstPutV_len2 m ys _
              have hvl : vn ≤ 21 := by rw [← hvn, ← hvs]; exact gstPutV_len2 m xs _
              have hbl : bn ≤ 21 := by rw [← hbn, ← hbs]; exact gstPutV_len2 m vs _
              rw [hus, hvs, hbs] at l6
              have HPA := hid hus
              have HPV := hid hvs
              have HPB := hid hbs
              have HAN := hid han
              have HVN := hid hvn
              have HBN := hid hbn
              clear hU hcm hco hP EU bP EV l1 l2 l5 hus hvs hbs han hvn hbn hf hpo HX2 HY2 HLAW HU
              by_cases hcc : cm = gc
              · have g1 : (cm == gc) = true := beq_t hcc
                clear hcc l6
                refine wp_gen fun U2 hU2 => ?_
                obtain ⟨t0, rfl⟩ : Ext U U2 := hU2 ▸ Ext.refl _
                clear hU2
                cases kb with
                | true =>
                  try go_wp2_with (first
                      | (go_at_call 48; (with_reducible refine (iGstPut_h m _ _ _ ⟨_, _, ⟨_, _, _, _, _⟩⟩ _ _ _ _ (Re.of (Hid.out (by assumption)) zq0) (by omega) (by assumption) (by assumption)).mono ?_); rintro e w' ⟨a, c, rfl, ⟨t, rfl⟩, ho⟩; have hR := hid ho.re; clear ho) | (go_at_call 53; (with_reducible refine (iGstListOk_h m _ _ _ _ _ _ (Re.of (Hid.out (by assumption)) zq0) (by omega) (by assumption)).mono ?_); rintro e w' ⟨rfl, t, rfl⟩) | (go_at_call 49; (with_reducible refine (maGhosts_c _ _ _ _ _ _ _ _ (Re.of (Hid.out (by assumption)) zq0) (Re.of (Hid.out (by assumption)) zq0) (by omega)).mono ?_); rintro e w' ⟨rfl, t, rfl⟩)
                      | (
                        with_reducible refine wp_region_mix (by kernel_rfl) (by decide +kernel) ?_
                        repeat (first
                          | (refine mix_pure rfl ?_; (first | go_big_quiet_skip | (go_big_quiet_want; go_big_quiet_op; go_big_quiet_on)); refine wpQuiet_nil ?_)
                          | (refine mix_skip (by rfl) ?_; (try simp only [Act.put, List.setIfInBounds_toArray, List.set_cons_zero, List.set_cons_succ]))
                          | (refine mix_mk rfl (by rfl) (fun K hK => ?_); (first | (go_simp; first | (go_at_call 48; (with_reducible refine (iGstPut_h m _ _ _ ⟨_, _, ⟨_, _, _, _, _⟩⟩ _ _ _ _ (Re.of (Hid.out (by assumption)) zq0) (by omega) (by assumption) (by assumption)).mono ?_); rintro e w' ⟨a, c, rfl, ⟨t, rfl⟩, ho⟩; have hR := hid ho.re; clear ho) | (go_at_call 53; (with_reducible refine (iGstListOk_h m _ _ _ _ _ _ (Re.of (Hid.out (by assumption)) zq0) (by omega) (by assumption)).mono ?_); rintro e w' ⟨rfl, t, rfl⟩) | (go_at_call 49; (with_reducible refine (maGhosts_c _ _ _ _ _ _ _ _ (Re.of (Hid.out (by assumption)) zq0) (Re.of (Hid.out (by assumption)) zq0) (by omega)).mono ?_); rintro e w' ⟨rfl, t, rfl⟩) | skip)); (show K _ _); refine hK _ _ (show Ext _ _ from zq0) ?_; clear hK K; (try simp only [Act.put, List.setIfInBounds_toArray, List.set_cons_zero, List.set_cons_succ])))
                        refine mix_nil ?_)
                      | (
                        with_reducible refine wp_region_ext (by kernel_rfl) (by kernel_rfl) ?_
                        repeat (first | go_big_quiet_skip | (go_big_quiet_want; go_big_quiet_op; first | go_big_quiet_on | (apply Exists.intro; refine ⟨fun _ => ?_, ?_⟩; (fail); (try rw [h1]); (try rw [h2]); (try rw [h3]); (try rw [h4]); (try rw [p1]); (try rw [p2]); (try rw [p3]); (try rw [p4]); (try rw [r1]); (try rw [r2]); (try rw [r3]); (try rw [r4]); (try rw [r5]); (try rw [r6]); (try rw [q3]); (try rw [q4]); (try rw [hp]); (try rw [hq]); go_big_quiet_on)))
                        refine wpQuiet_nil ?_
                        rintro _ ⟨tq, rfl⟩))
                  go_ret
                  exact ⟨rfl, Ext.below (EW.out.trans zq0)⟩
                | false =>
                  obtain rfl : xn = 20 := by simpa using hfin
                  try go_wp2_with (first
                      | (go_at_call 48; (with_reducible refine (iGstPut_h m _ _ _ ⟨_, _, ⟨_, _, _, _, _⟩⟩ _ _ _ _ (Re.of (Hid.out (by assumption)) zq0) (by omega) (by assumption) (by assumption)).mono ?_); rintro e w' ⟨a, c, rfl, ⟨t, rfl⟩, ho⟩; have hR := hid ho.re; clear ho) | (go_at_call 53; (with_reducible refine (iGstListOk_h m _ _ _ _ _ _ (Re.of (Hid.out (by assumption)) zq0) (by omega) (by assumption)).mono ?_); rintro e w' ⟨rfl, t, rfl⟩) | (go_at_call 49; (with_reducible refine (maGhosts_c _ _ _ _ _ _ _ _ (Re.of (Hid.out (by assumption)) zq0) (Re.of (Hid.out (by assumption)) zq0) (by omega)).mono ?_); rintro e w' ⟨rfl, t, rfl⟩)
                      | (
                        with_reducible refine wp_region_mix (by kernel_rfl) (by decide +kernel) ?_
                        repeat (first
                          | (refine mix_pure rfl ?_; (first | go_big_quiet_skip | (go_big_quiet_want; go_big_quiet_op; go_big_quiet_on)); refine wpQuiet_nil ?_)
                          | (refine mix_skip (by rfl) ?_; (try simp only [Act.put, List.setIfInBounds_toArray, List.set_cons_zero, List.set_cons_succ]))
                          | (refine mix_mk rfl (by rfl) (fun K hK => ?_); (first | (go_simp; first | (go_at_call 48; (with_reducible refine (iGstPut_h m _ _ _ ⟨_, _, ⟨_, _, _, _, _⟩⟩ _ _ _ _ (Re.of (Hid.out (by assumption)) zq0) (by omega) (by assumption) (by assumption)).mono ?_); rintro e w' ⟨a, c, rfl, ⟨t, rfl⟩, ho⟩; have hR := hid ho.re; clear ho) | (go_at_call 53; (with_reducible refine (iGstListOk_h m _ _ _ _ _ _ (Re.of (Hid.out (by assumption)) zq0) (by omega) (by assumption)).mono ?_); rintro e w' ⟨rfl, t, rfl⟩) | (go_at_call 49; (with_reducible refine (maGhosts_c _ _ _ _ _ _ _ _ (Re.of (Hid.out (by assumption)) zq0) (Re.of (Hid.out (by assumption)) zq0) (by omega)).mono ?_); rintro e w' ⟨rfl, t, rfl⟩) | skip)); (show K _ _); refine hK _ _ (show Ext _ _ from zq0) ?_; clear hK K; (try simp only [Act.put, List.setIfInBounds_toArray, List.set_cons_zero, List.set_cons_succ])))
                        refine mix_nil ?_)
                      | (
                        with_reducible refine wp_region_ext (by kernel_rfl) (by kernel_rfl) ?_
                        repeat (first | go_big_quiet_skip | (go_big_quiet_want; go_big_quiet_op; first | go_big_quiet_on | (apply Exists.intro; refine ⟨fun _ => ?_, ?_⟩; (fail); (try rw [h1]); (try rw [h2]); (try rw [h3]); (try rw [h4]); (try rw [p1]); (try rw [p2]); (try rw [p3]); (try rw [p4]); (try rw [r1]); (try rw [r2]); (try rw [r3]); (try rw [r4]); (try rw [r5]); (try rw [r6]); (try rw [q3]); (try rw [q4]); (try rw [hp]); (try rw [hq]); go_big_quiet_on)))
                        refine wpQuiet_nil ?_
                        rintro _ ⟨tq, rfl⟩))
                  go_ret
                  exact ⟨rfl, Ext.below (EW.out.trans zq0)⟩
              · have g1 : (cm == gc) = false := beq_f hcc
                obtain rfl := l6 hcc
                obtain rfl : an = bn := by rw [← HAN.out, ← HBN.out]
                clear hcc
                refine wp_gen fun U2 hU2 => ?_
                obtain ⟨t0, rfl⟩ : Ext U U2 := hU2 ▸ Ext.refl _
                clear hU2
                cases kb with
                | true =>
                  try go_wp2_with (first
                      | (go_at_call 48; (with_reducible refine (iGstPut_h m _ _ _ ⟨_, _, ⟨_, _, _, _, _⟩⟩ _ _ _ _ (Re.of (Hid.out (by assumption)) zq0) (by omega) (by assumption) (by assumption)).mono ?_); rintro e w' ⟨a, c, rfl, ⟨t, rfl⟩, ho⟩; have hR := hid ho.re; clear ho) | (go_at_call 53; (with_reducible refine (iGstListOk_h m _ _ _ _ _ _ (Re.of (Hid.out (by assumption)) zq0) (by omega) (by assumption)).mono ?_); rintro e w' ⟨rfl, t, rfl⟩) | (go_at_call 49; (with_reducible refine (maGhosts_c _ _ _ _ _ _ _ _ (Re.of (Hid.out (by assumption)) zq0) (Re.of (Hid.out (by assumption)) zq0) (by omega)).mono ?_); rintro e w' ⟨rfl, t, rfl⟩)
                      | (
                        with_reducible refine wp_region_mix (by kernel_rfl) (by decide +kernel) ?_
                        repeat (first
                          | (refine mix_pure rfl ?_; (first | go_big_quiet_skip | (go_big_quiet_want; go_big_quiet_op; go_big_quiet_on)); refine wpQuiet_nil ?_)
                          | (refine mix_skip (by rfl) ?_; (try simp only [Act.put, List.setIfInBounds_toArray, List.set_cons_zero, List.set_cons_succ]))
                          | (refine mix_mk rfl (by rfl) (fun K hK => ?_); (first | (go_simp; first | (go_at_call 48; (with_reducible refine (iGstPut_h m _ _ _ ⟨_, _, ⟨_, _, _, _, _⟩⟩ _ _ _ _ (Re.of (Hid.out (by assumption)) zq0) (by omega) (by assumption) (by assumption)).mono ?_); rintro e w' ⟨a, c, rfl, ⟨t, rfl⟩, ho⟩; have hR := hid ho.re; clear ho) | (go_at_call 53; (with_reducible refine (iGstListOk_h m _ _ _ _ _ _ (Re.of (Hid.out (by assumption)) zq0) (by omega) (by assumption)).mono ?_); rintro e w' ⟨rfl, t, rfl⟩) | (go_at_call 49; (with_reducible refine (maGhosts_c _ _ _ _ _ _ _ _ (Re.of (Hid.out (by assumption)) zq0) (Re.of (Hid.out (by assumption)) zq0) (by omega)).mono ?_); rintro e w' ⟨rfl, t, rfl⟩) | skip)); (show K _ _); refine hK _ _ (show Ext _ _ from zq0) ?_; clear hK K; (try simp only [Act.put, List.setIfInBounds_toArray, List.set_cons_zero, List.set_cons_succ])))
                        refine mix_nil ?_)
                      | (
                        with_reducible refine wp_region_ext (by kernel_rfl) (by kernel_rfl) ?_
                        repeat (first | go_big_quiet_skip | (go_big_quiet_want; go_big_quiet_op; first | go_big_quiet_on | (apply Exists.intro; refine ⟨fun _ => ?_, ?_⟩; (fail); (try rw [h1]); (try rw [h2]); (try rw [h3]); (try rw [h4]); (try rw [p1]); (try rw [p2]); (try rw [p3]); (try rw [p4]); (try rw [r1]); (try rw [r2]); (try rw [r3]); (try rw [r4]); (try rw [r5]); (try rw [r6]); (try rw [q3]); (try rw [q4]); (try rw [hp]); (try rw [hq]); go_big_quiet_on)))
                        refine wpQuiet_nil ?_
                        rintro _ ⟨tq, rfl⟩))
                  go_ret
                  exact ⟨rfl, Ext.below (EW.out.trans zq0)⟩
                | false =>
                  obtain rfl : xn = 20 := by simpa using hfin
                  try go_wp2_with (first
                      | (go_at_call 48; (with_reducible refine (iGstPut_h m _ _ _ ⟨_, _, ⟨_, _, _, _, _⟩⟩ _ _ _ _ (Re.of (Hid.out (by assumption)) zq0) (by omega) (by assumption) (by assumption)).mono ?_); rintro e w' ⟨a, c, rfl, ⟨t, rfl⟩, ho⟩; have hR := hid ho.re; clear ho) | (go_at_call 53; (with_reducible refine (iGstListOk_h m _ _ _ _ _ _ (Re.of (Hid.out (by assumption)) zq0) (by omega) (by assumption)).mono ?_); rintro e w' ⟨rfl, t, rfl⟩) | (go_at_call 49; (with_reducible refine (maGhosts_c _ _ _ _ _ _ _ _ (Re.of (Hid.out (by assumption)) zq0) (Re.of (Hid.out (by assumption)) zq0) (by omega)).mono ?_); rintro e w' ⟨rfl, t, rfl⟩)
                      | (
                        with_reducible refine wp_region_mix (by kernel_rfl) (by decide +kernel) ?_
                        repeat (first
                          | (refine mix_pure rfl ?_; (first | go_big_quiet_skip | (go_big_quiet_want; go_big_quiet_op; go_big_quiet_on)); refine wpQuiet_nil ?_)
                          | (refine mix_skip (by rfl) ?_; (try simp only [Act.put, List.setIfInBounds_toArray, List.set_cons_zero, List.set_cons_succ]))
                          | (refine mix_mk rfl (by rfl) (fun K hK => ?_); (first | (go_simp; first | (go_at_call 48; (with_reducible refine (iGstPut_h m _ _ _ ⟨_, _, ⟨_, _, _, _, _⟩⟩ _ _ _ _ (Re.of (Hid.out (by assumption)) zq0) (by omega) (by assumption) (by assumption)).mono ?_); rintro e w' ⟨a, c, rfl, ⟨t, rfl⟩, ho⟩; have hR := hid ho.re; clear ho) | (go_at_call 53; (with_reducible refine (iGstListOk_h m _ _ _ _ _ _ (Re.of (Hid.out (by assumption)) zq0) (by omega) (by assumption)).mono ?_); rintro e w' ⟨rfl, t, rfl⟩) | (go_at_call 49; (with_reducible refine (maGhosts_c _ _ _ _ _ _ _ _ (Re.of (Hid.out (by assumption)) zq0) (Re.of (Hid.out (by assumption)) zq0) (by omega)).mono ?_); rintro e w' ⟨rfl, t, rfl⟩) | skip)); (show K _ _); refine hK _ _ (show Ext _ _ from zq0) ?_; clear hK K; (try simp only [Act.put, List.setIfInBounds_toArray, List.set_cons_zero, List.set_cons_succ])))
                        refine mix_nil ?_)
                      | (
                        with_reducible refine wp_region_ext (by kernel_rfl) (by kernel_rfl) ?_
                        repeat (first | go_big_quiet_skip | (go_big_quiet_want; go_big_quiet_op; first | go_big_quiet_on | (apply Exists.intro; refine ⟨fun _ => ?_, ?_⟩; (fail); (try rw [h1]); (try rw [h2]); (try rw [h3]); (try rw [h4]); (try rw [p1]); (try rw [p2]); (try rw [p3]); (try rw [p4]); (try rw [r1]); (try rw [r2]); (try rw [r3]); (try rw [r4]); (try rw [r5]); (try rw [r6]); (try rw [q3]); (try rw [q4]); (try rw [hp]); (try rw [hq]); go_big_quiet_on)))
                        refine wpQuiet_nil ?_
                        rintro _ ⟨tq, rfl⟩))
                  go_ret
                  exact ⟨rfl, Ext.below (EW.out.trans zq0)⟩

set_option maxRecDepth 100000 in
theorem fnGstPut_lifted (os : Os) (started : os.Started) (H : Type) (enc : TypeId × Value → H) :
    ReturnsInHanded {} Try.checked os 9 .any (Rows.fnGstPutSpec.pre6 enc Try.prog Try.f9 Rows.fnGstPutRow.domain false) (Rows.fnGstPutSpec.post enc Try.prog Try.f9 false true false false) := by
  refine returnsInHanded_of_change (C := Try.checked) own_knob started (by kernel_rfl) Try.func9
    (ChangeSpec.witness6 (enc := enc) (C := Try.checked) false ⟨#[], #[.slice none 0 0, .slice none 0 0], []⟩ 8 (by kernel_rfl) (by kernel_rfl) (by kernel_rfl) (by kernel_rfl)) ?_
  intro W base args ds gs before hval0 hW _ _
  have hval : ∀ (j : Nat) t v, Try.f9.params[j]? = some t → args[j]? = some v → Value.okWide Try.prog W .any base t v := hval0
  have hfin : ∀ W', Below W.heap.size W W' → Rows.fnGstPutSpec.post enc Try.prog Try.f9 false true false false W args (.bool true) W' := fun W' hb =>
    law_post laid_out rfl bool_ty rfl (by kernel_rfl) hW (fun ds h => by match ds, h with | [_, _], _ => rfl) hb
  suffices hwalk : Calls Try.prog 9 args W fun e W' => e = .returned (.bool true) ∧ Below W.heap.size W W' by
    refine hwalk.mono fun e W' ⟨he, hb⟩ => ?_
    subst he
    exact ⟨_, rfl, hfin W' hb⟩
  clear hfin
  obtain ⟨p, q, hA0, hV, _, hfz, hnd⟩ := hW
  have hA : DataW.TrodAll enc Try.prog W 0 (fun _ => true) true Try.f9.params.toList args.toList ds p := hA0
  clear hA0 hval0 hV hfz hnd
  rw [Try.params9] at hA hval
  obtain ⟨v0, vs0, d0, ds0, p0, q0, hargs0, _, _, h0, r0⟩ := trodAll_cons hA
  obtain ⟨v1, vs1, d1, ds1, p1, q1, hargs1, _, _, h1, r1⟩ := trodAll_cons r0
  obtain ⟨hnil, _, _⟩ := trodAll_nil r1
  obtain rfl : args = #[v0, v1] := by cases args; simp_all
  clear hargs0 hargs1 hnil
  obtain ⟨code_a, code_n, code_c, rfl⟩ := okWide_slice Try.underlying22 (hval 0 22 v0 rfl rfl)
  obtain ⟨hb0, hd0⟩ := open_bytes h0
  obtain ⟨more_a, more_n, more_c, rfl⟩ := okWide_slice Try.underlying22 (hval 1 22 v1 rfl rfl)
  obtain ⟨hb1, hd1⟩ := open_bytes h1
  exact fnGstPut_walk W code_a code_n code_c hb0 hd0 more_a more_n more_c hb1 hd1

theorem fnGstPut_holds : Rows.FnGstPutSaid :=
  OpenClaim.holds_of_wide 9 Try.f9 rfl rfl rfl rfl rfl rfl rfl ⟨rfl, rfl, rfl, rfl, rfl⟩ rfl rfl rfl rfl rfl (by kernel_rfl) Try.func9 (by kernel_rfl)
    (of_decide_eq_true (by kernel_rfl)) (by unfold Func.isWrapper; rw [if_neg (by decide +kernel)]; exact ⟨rfl, rfl⟩)
    (fun os started H enc _ => fnGstPut_lifted os started H enc)


end Go.Proofs.Ytbbpipbemhggdaa

