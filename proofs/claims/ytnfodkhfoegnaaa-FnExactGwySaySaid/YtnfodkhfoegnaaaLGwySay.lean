/- FnExactGwySay: the program's function returns what the reference's returns; for all arguments. -/
import Derived.Test.YtnfodkhfoegnaaaGwySy
import Derived.Test.YtnfodkhfoegnaaaTMs
import Derived.Test.YtnfodkhfoegnaaaTMp
import Derived.Test.YtnfodkhfoegnaaaTArb
import Derived.Test.YtnfodkhfoegnaaaGapL
import Derived.Test.YtnfodkhfoegnaaaSegT
import Derived.Test.YtnfodkhfoegnaaaGapT
namespace Go.Proofs.Ytnfodkhfoegnaaa
open Go.ChangeShapes Go.WideShapes Go.ChangeAt Go.RowKit
set_option linter.unusedSimpArgs false
set_option linter.unusedVariables false

set_option maxRecDepth 100000 in
set_option maxHeartbeats 8000000 in
theorem fnExactGwySay_walk (W : World) (m : Mp) (b_a : Option Addr) (b_n b_c : Nat) (b : List Row) (h_b : Re W (.sl sRow) [.slice b_a b_n b_c] (.l (b.map Row.dat))) (t_a1 t_a2 : Option Addr) (t_n1 t_c1 t_n2 t_c2 : Nat) (t1 t2 : List Int) (h_t1 : Re W (.sl .int) [.slice t_a1 t_n1 t_c1] (.l (t1.map Dat.i))) (h_t2 : Re W (.sl .int) [.slice t_a2 t_n2 t_c2] (.l (t2.map Dat.i))) (sv who : Int) :
    Calls Try.prog 4 #[.agg #[.int .i64 m.c, .int .i64 m.w], .agg #[.slice b_a b_n b_c], .agg #[.slice t_a1 t_n1 t_c1, .slice t_a2 t_n2 t_c2], .int .i64 sv, .int .i64 who] W fun e W' => e = .returned (.bool true) ∧ Below W.heap.size W W' := by
  have m_b_n := h_b.max
  have m_t1 := h_t1.max
  have m_t2 := h_t2.max
  have H_b := hid h_b
  have H_t1 := hid h_t1
  have H_t2 := hid h_t2
  clear h_b h_t1 h_t2
  obtain ⟨v, hv⟩ : ∃ v, gsM m b t1 t2 sv who = v := ⟨_, rfl⟩
  obtain ⟨r, hr⟩ : ∃ r, gsB m b t1 t2 sv who = r := ⟨_, rfl⟩
  have HS := hid (fun (a a0 a1 : Option Addr) (n c n0 c0 n1 c1 : Nat) (w : World) (hx : Re w (.sl sRow) [.slice a n c] (.l (b.map Row.dat))) (hs : Re w (.sl .int) [.slice a0 n0 c0] (.l (t1.map Dat.i))) (hs1 : Re w (.sl .int) [.slice a1 n1 c1] (.l (t2.map Dat.i))) (hn : n ≤ 1048576) (hn0 : n0 ≤ 1048576) (hn1 : n1 ≤ 1048576) => (show Calls Try.prog 13 #[.agg #[.int .i64 m.c, .int .i64 m.w], .agg #[.slice a n c], .agg #[.slice a0 n0 c0, .slice a1 n1 c1], .int .i64 sv, .int .i64 who] w (SayR w v r) from hv ▸ hr ▸ sGwySay_c m b t1 t2 a a0 a1 n c n0 c0 n1 c1 sv who w hx hs hs1 hn hn0 hn1))
  have HI := hid (fun (a a0 a1 : Option Addr) (n c n0 c0 n1 c1 : Nat) (w : World) (hx : Re w (.sl sRow) [.slice a n c] (.l (b.map Row.dat))) (hs : Re w (.sl .int) [.slice a0 n0 c0] (.l (t1.map Dat.i))) (hs1 : Re w (.sl .int) [.slice a1 n1 c1] (.l (t2.map Dat.i))) (hn : n ≤ 1048576) (hn0 : n0 ≤ 1048576) (hn1 : n1 ≤ 1048576) => (show Calls Try.prog 16 #[.agg #[.int .i64 m.c, .int .i64 m.w], .agg #[.slice a n c], .agg #[.slice a0 n0 c0, .slice a1 n1 c1], .int .i64 sv, .int .i64 who] w (SayR w v r) from hv ▸ hr ▸ iGwySay_c m b t1 t2 a a0 a1 n c n0 c0 n1 c1 sv who w hx hs hs1 hn hn0 hn1))
  clear hv hr
  by_cases s1 : (1048576 : Int) < 0 + (b_n : Int)
  · go_enter Try.func4, Try.ntmps4
    try go_wp2_with (first
        | (go_at_call 11; refine (szGwy_c _ _ _ _ _ (by omega) (by omega) (by assumption)).mono ?_; rintro e w' ⟨rfl, t, rfl⟩)
        | (
          with_reducible refine wp_region_mix (by kernel_rfl) (by decide +kernel) ?_
          repeat (first
            | (refine mix_pure rfl ?_; (first | go_big_quiet_skip | (go_big_quiet_want; go_big_quiet_op; go_big_quiet_on)); refine wpQuiet_nil ?_)
            | (refine mix_skip (by rfl) ?_; (try simp only [Act.put, List.setIfInBounds_toArray, List.set_cons_zero, List.set_cons_succ]))
            | (refine mix_mk rfl (by rfl) (fun K hK => ?_); (first | (go_simp; first | (go_at_call 11; refine (szGwy_c _ _ _ _ _ (by omega) (by omega) (by assumption)).mono ?_; rintro e w' ⟨rfl, t, rfl⟩) | skip)); (show K _ _); refine hK _ _ (show Ext _ _ from (by ((try simp only [ext_drew]); (try simp only [ext_ext]); repeat (first | exact Ext.refl _ | with_reducible apply Ext.add | with_reducible apply Ext.dr | apply Ext.alloc | apply Ext.ext | apply Ext.drew | refine Ext.trans ?_ (by assumption))))) ?_; clear hK K; (try simp only [Act.put, List.setIfInBounds_toArray, List.set_cons_zero, List.set_cons_succ])))
          refine mix_nil ?_)
        | (
          with_reducible refine wp_region_ext (by kernel_rfl) (by kernel_rfl) ?_
          repeat (first | go_big_quiet_skip | (go_big_quiet_want; go_big_quiet_op; first | go_big_quiet_on | (apply Exists.intro; refine ⟨fun _ => ?_, ?_⟩; ((first | (go_at_call 11; first | exact quiet_call (szGwy_c _ _ _ _ _ (by omega) (by omega) (by assumption)) | exact quiet_call2 (szGwy_c _ _ _ _ _ (by omega) (by omega) (by assumption))))); (try rw [h1]); (try rw [h2]); (try rw [h3]); (try rw [h4]); (try rw [p1]); (try rw [p2]); (try rw [p3]); (try rw [p4]); (try rw [r1]); (try rw [r2]); (try rw [r3]); (try rw [r4]); (try rw [r5]); (try rw [r6]); (try rw [q3]); (try rw [q4]); (try rw [hp]); (try rw [hq]); go_big_quiet_on)))
          refine wpQuiet_nil ?_
          rintro _ ⟨tq, rfl⟩))
    go_ret
    exact ⟨rfl, Ext.below (by ((try simp only [ext_drew]); (try simp only [ext_ext]); repeat (first | exact Ext.refl _ | with_reducible apply Ext.add | with_reducible apply Ext.dr | apply Ext.alloc | apply Ext.ext | apply Ext.drew | refine Ext.trans ?_ (by assumption))))⟩
  · by_cases s2 : (1048576 : Int) < 0 + (b_n : Int) + (t_n1 : Int)
    · go_enter Try.func4, Try.ntmps4
      try go_wp2_with (first
          | (go_at_call 11; refine (szGwy_c _ _ _ _ _ (by omega) (by omega) (by assumption)).mono ?_; rintro e w' ⟨rfl, t, rfl⟩) | (go_at_call 12; refine (szArb_c _ _ _ _ _ _ _ _ (by omega) (by omega) (by assumption) (by assumption)).mono ?_; rintro e w' ⟨rfl, t, rfl⟩)
          | (
            with_reducible refine wp_region_mix (by kernel_rfl) (by decide +kernel) ?_
            repeat (first
              | (refine mix_pure rfl ?_; (first | go_big_quiet_skip | (go_big_quiet_want; go_big_quiet_op; go_big_quiet_on)); refine wpQuiet_nil ?_)
              | (refine mix_skip (by rfl) ?_; (try simp only [Act.put, List.setIfInBounds_toArray, List.set_cons_zero, List.set_cons_succ]))
              | (refine mix_mk rfl (by rfl) (fun K hK => ?_); (first | (go_simp; first | (go_at_call 11; refine (szGwy_c _ _ _ _ _ (by omega) (by omega) (by assumption)).mono ?_; rintro e w' ⟨rfl, t, rfl⟩) | (go_at_call 12; refine (szArb_c _ _ _ _ _ _ _ _ (by omega) (by omega) (by assumption) (by assumption)).mono ?_; rintro e w' ⟨rfl, t, rfl⟩) | skip)); (show K _ _); refine hK _ _ (show Ext _ _ from (by ((try simp only [ext_drew]); (try simp only [ext_ext]); repeat (first | exact Ext.refl _ | with_reducible apply Ext.add | with_reducible apply Ext.dr | apply Ext.alloc | apply Ext.ext | apply Ext.drew | refine Ext.trans ?_ (by assumption))))) ?_; clear hK K; (try simp only [Act.put, List.setIfInBounds_toArray, List.set_cons_zero, List.set_cons_succ])))
            refine mix_nil ?_)
          | (
            with_reducible refine wp_region_ext (by kernel_rfl) (by kernel_rfl) ?_
            repeat (first | go_big_quiet_skip | (go_big_quiet_want; go_big_quiet_op; first | go_big_quiet_on | (apply Exists.intro; refine ⟨fun _ => ?_, ?_⟩; ((first | (go_at_call 11; first | exact quiet_call (szGwy_c _ _ _ _ _ (by omega) (by omega) (by assumption)) | exact quiet_call2 (szGwy_c _ _ _ _ _ (by omega) (by omega) (by assumption))) | (go_at_call 12; first | exact quiet_call (szArb_c _ _ _ _ _ _ _ _ (by omega) (by omega) (by assumption) (by assumption)) | exact quiet_call2 (szArb_c _ _ _ _ _ _ _ _ (by omega) (by omega) (by assumption) (by assumption))))); (try rw [h1]); (try rw [h2]); (try rw [h3]); (try rw [h4]); (try rw [p1]); (try rw [p2]); (try rw [p3]); (try rw [p4]); (try rw [r1]); (try rw [r2]); (try rw [r3]); (try rw [r4]); (try rw [r5]); (try rw [r6]); (try rw [q3]); (try rw [q4]); (try rw [hp]); (try rw [hq]); go_big_quiet_on)))
            refine wpQuiet_nil ?_
            rintro _ ⟨tq, rfl⟩))
      go_ret
      exact ⟨rfl, Ext.below (by ((try simp only [ext_drew]); (try simp only [ext_ext]); repeat (first | exact Ext.refl _ | with_reducible apply Ext.add | with_reducible apply Ext.dr | apply Ext.alloc | apply Ext.ext | apply Ext.drew | refine Ext.trans ?_ (by assumption))))⟩
    · by_cases s3 : (1048576 : Int) < 0 + (b_n : Int) + (t_n1 : Int) + (t_n2 : Int)
      · go_enter Try.func4, Try.ntmps4
        try go_wp2_with (first
            | (go_at_call 11; refine (szGwy_c _ _ _ _ _ (by omega) (by omega) (by assumption)).mono ?_; rintro e w' ⟨rfl, t, rfl⟩) | (go_at_call 12; refine (szArb_c _ _ _ _ _ _ _ _ (by omega) (by omega) (by assumption) (by assumption)).mono ?_; rintro e w' ⟨rfl, t, rfl⟩)
            | (
              with_reducible refine wp_region_mix (by kernel_rfl) (by decide +kernel) ?_
              repeat (first
                | (refine mix_pure rfl ?_; (first | go_big_quiet_skip | (go_big_quiet_want; go_big_quiet_op; go_big_quiet_on)); refine wpQuiet_nil ?_)
                | (refine mix_skip (by rfl) ?_; (try simp only [Act.put, List.setIfInBounds_toArray, List.set_cons_zero, List.set_cons_succ]))
                | (refine mix_mk rfl (by rfl) (fun K hK => ?_); (first | (go_simp; first | (go_at_call 11; refine (szGwy_c _ _ _ _ _ (by omega) (by omega) (by assumption)).mono ?_; rintro e w' ⟨rfl, t, rfl⟩) | (go_at_call 12; refine (szArb_c _ _ _ _ _ _ _ _ (by omega) (by omega) (by assumption) (by assumption)).mono ?_; rintro e w' ⟨rfl, t, rfl⟩) | skip)); (show K _ _); refine hK _ _ (show Ext _ _ from (by ((try simp only [ext_drew]); (try simp only [ext_ext]); repeat (first | exact Ext.refl _ | with_reducible apply Ext.add | with_reducible apply Ext.dr | apply Ext.alloc | apply Ext.ext | apply Ext.drew | refine Ext.trans ?_ (by assumption))))) ?_; clear hK K; (try simp only [Act.put, List.setIfInBounds_toArray, List.set_cons_zero, List.set_cons_succ])))
              refine mix_nil ?_)
            | (
              with_reducible refine wp_region_ext (by kernel_rfl) (by kernel_rfl) ?_
              repeat (first | go_big_quiet_skip | (go_big_quiet_want; go_big_quiet_op; first | go_big_quiet_on | (apply Exists.intro; refine ⟨fun _ => ?_, ?_⟩; ((first | (go_at_call 11; first | exact quiet_call (szGwy_c _ _ _ _ _ (by omega) (by omega) (by assumption)) | exact quiet_call2 (szGwy_c _ _ _ _ _ (by omega) (by omega) (by assumption))) | (go_at_call 12; first | exact quiet_call (szArb_c _ _ _ _ _ _ _ _ (by omega) (by omega) (by assumption) (by assumption)) | exact quiet_call2 (szArb_c _ _ _ _ _ _ _ _ (by omega) (by omega) (by assumption) (by assumption))))); (try rw [h1]); (try rw [h2]); (try rw [h3]); (try rw [h4]); (try rw [p1]); (try rw [p2]); (try rw [p3]); (try rw [p4]); (try rw [r1]); (try rw [r2]); (try rw [r3]); (try rw [r4]); (try rw [r5]); (try rw [r6]); (try rw [q3]); (try rw [q4]); (try rw [hp]); (try rw [hq]); go_big_quiet_on)))
              refine wpQuiet_nil ?_
              rintro _ ⟨tq, rfl⟩))
        go_ret
        exact ⟨rfl, Ext.below (by ((try simp only [ext_drew]); (try simp only [ext_ext]); repeat (first | exact Ext.refl _ | with_reducible apply Ext.add | with_reducible apply Ext.dr | apply Ext.alloc | apply Ext.ext | apply Ext.drew | refine Ext.trans ?_ (by assumption))))⟩
      · go_enter Try.func4, Try.ntmps4
        try go_wp2_with (first
            | (go_at_call 11; refine (szGwy_c _ _ _ _ _ (by omega) (by omega) (by assumption)).mono ?_; rintro e w' ⟨rfl, t, rfl⟩) | (go_at_call 12; refine (szArb_c _ _ _ _ _ _ _ _ (by omega) (by omega) (by assumption) (by assumption)).mono ?_; rintro e w' ⟨rfl, t, rfl⟩)
            | (
              with_reducible refine wp_region_mix (by kernel_rfl) (by decide +kernel) ?_
              repeat (first
                | (refine mix_pure rfl ?_; (first | go_big_quiet_skip | (go_big_quiet_want; go_big_quiet_op; go_big_quiet_on)); refine wpQuiet_nil ?_)
                | (refine mix_skip (by rfl) ?_; (try simp only [Act.put, List.setIfInBounds_toArray, List.set_cons_zero, List.set_cons_succ]))
                | (refine mix_mk rfl (by rfl) (fun K hK => ?_); (first | (go_simp; first | (go_at_call 11; refine (szGwy_c _ _ _ _ _ (by omega) (by omega) (by assumption)).mono ?_; rintro e w' ⟨rfl, t, rfl⟩) | (go_at_call 12; refine (szArb_c _ _ _ _ _ _ _ _ (by omega) (by omega) (by assumption) (by assumption)).mono ?_; rintro e w' ⟨rfl, t, rfl⟩) | skip)); (show K _ _); refine hK _ _ (show Ext _ _ from (by ((try simp only [ext_drew]); (try simp only [ext_ext]); repeat (first | exact Ext.refl _ | with_reducible apply Ext.add | with_reducible apply Ext.dr | apply Ext.alloc | apply Ext.ext | apply Ext.drew | refine Ext.trans ?_ (by assumption))))) ?_; clear hK K; (try simp only [Act.put, List.setIfInBounds_toArray, List.set_cons_zero, List.set_cons_succ])))
              refine mix_nil ?_)
            | (
              with_reducible refine wp_region_ext (by kernel_rfl) (by kernel_rfl) ?_
              repeat (first | go_big_quiet_skip | (go_big_quiet_want; go_big_quiet_op; first | go_big_quiet_on | (apply Exists.intro; refine ⟨fun _ => ?_, ?_⟩; ((first | (go_at_call 11; first | exact quiet_call (szGwy_c _ _ _ _ _ (by omega) (by omega) (by assumption)) | exact quiet_call2 (szGwy_c _ _ _ _ _ (by omega) (by omega) (by assumption))) | (go_at_call 12; first | exact quiet_call (szArb_c _ _ _ _ _ _ _ _ (by omega) (by omega) (by assumption) (by assumption)) | exact quiet_call2 (szArb_c _ _ _ _ _ _ _ _ (by omega) (by omega) (by assumption) (by assumption))))); (try rw [h1]); (try rw [h2]); (try rw [h3]); (try rw [h4]); (try rw [p1]); (try rw [p2]); (try rw [p3]); (try rw [p4]); (try rw [r1]); (try rw [r2]); (try rw [r3]); (try rw [r4]); (try rw [r5]); (try rw [r6]); (try rw [q3]); (try rw [q4]); (try rw [hp]); (try rw [hq]); go_big_quiet_on)))
              refine wpQuiet_nil ?_
              rintro _ ⟨tq, rfl⟩))
        refine wp_region_gapT' 12 13 #[.int .i64 0, .int .i64 0, .int .i64 0, .int .i64 0, .int .i64 0, .int .i64 0, .int .i64 0, .int .i64 0, .int .i64 0, .int .i64 0, .int .i64 0, .int .i64 0, .int .i64 0, .int .i64 0, .int .i64 0, .int .i64 0, .int .i64 0, .int .i64 0, .int .i64 0, .int .i64 0, .int .i64 0, .int .i64 0, .int .i64 0, .int .i64 0, .int .i64 0] 44 (by kernel_rfl) (by decide +kernel) (by kernel_rfl) rfl (by kernel_rfl) rfl rfl rfl rfl rfl rfl rfl rfl (fun a w => by go_simp) ?_
        simp only [List.take_succ_cons, List.take_zero, List.eraseIdx_cons_succ, List.eraseIdx_cons_zero, List.drop_succ_cons, List.drop_zero]
        repeat (first
          | (refine gap_pure rfl ?_; (first | go_big_quiet_skip | (go_big_quiet_want; go_big_quiet_op; go_big_quiet_on)); refine wpQuiet_nil ?_)
          | (refine gap_skip (by rfl) ?_; (try simp only [Act.put, List.setIfInBounds_toArray, List.set_cons_zero, List.set_cons_succ]))
          | (refine gap_mk rfl (by rfl) (fun V hV R hKR => ?_); (first | (go_simp; first | (go_at_call 8; refine (toMp_c _ _).mono ?_; rintro e w' ⟨rfl, t, rfl⟩) | (go_at_call 14; refine (toGwy_c _ _ _ _ _ (Re.of (Hid.out (by assumption)) (by ((try simp only [ext_drew]); (try simp only [ext_ext]); repeat (first | exact Ext.refl _ | with_reducible apply Ext.add | with_reducible apply Ext.dr | apply Ext.alloc | apply Ext.ext | apply Ext.drew | refine Ext.trans ?_ (by assumption))))) (by omega)).mono ?_; rintro e w' ⟨a0, c0, rfl, ⟨t, rfl⟩, ho⟩; have hR := re_Gwy ho.re; have hR0 := hid hR; clear hR; have hO := hid ho; clear ho) | (go_at_call 15; refine (toArb_c _ _ _ _ _ _ _ _ _ (Re.of (Hid.out (by assumption)) (by ((try simp only [ext_drew]); (try simp only [ext_ext]); repeat (first | exact Ext.refl _ | with_reducible apply Ext.add | with_reducible apply Ext.dr | apply Ext.alloc | apply Ext.ext | apply Ext.drew | refine Ext.trans ?_ (by assumption))))) (Re.of (Hid.out (by assumption)) (by ((try simp only [ext_drew]); (try simp only [ext_ext]); repeat (first | exact Ext.refl _ | with_reducible apply Ext.add | with_reducible apply Ext.dr | apply Ext.alloc | apply Ext.ext | apply Ext.drew | refine Ext.trans ?_ (by assumption))))) (by omega) (by omega)).mono ?_; rintro e w' ⟨a0, c0, a1, c1, rfl, ⟨t, rfl⟩, ho⟩; have hR := re_Arb ho.re; have hR0 := hid hR.1; have hR1 := hid hR.2; clear hR; have hO := hid ho; clear ho) | (go_at_call 13; (with_reducible refine (HS.out _ _ _ _ _ _ _ _ _ _ (Re.of (Hid.out (by assumption)) (by ((try simp only [ext_drew]); (try simp only [ext_ext]); repeat (first | exact Ext.refl _ | with_reducible apply Ext.add | with_reducible apply Ext.dr | apply Ext.alloc | apply Ext.ext | apply Ext.drew | refine Ext.trans ?_ (by assumption))))) (Re.of (Hid.out (by assumption)) (by ((try simp only [ext_drew]); (try simp only [ext_ext]); repeat (first | exact Ext.refl _ | with_reducible apply Ext.add | with_reducible apply Ext.dr | apply Ext.alloc | apply Ext.ext | apply Ext.drew | refine Ext.trans ?_ (by assumption))))) (Re.of (Hid.out (by assumption)) (by ((try simp only [ext_drew]); (try simp only [ext_ext]); repeat (first | exact Ext.refl _ | with_reducible apply Ext.add | with_reducible apply Ext.dr | apply Ext.alloc | apply Ext.ext | apply Ext.drew | refine Ext.trans ?_ (by assumption))))) (by omega) (by omega) (by omega)).mono ?_); rintro e w' ⟨rfl, t, rfl⟩) | skip)); (show R _ _); refine hKR _ _ (show Ext _ _ from (by ((try simp only [ext_drew]); (try simp only [ext_ext]); repeat (first | exact Ext.refl _ | with_reducible apply Ext.add | with_reducible apply Ext.dr | apply Ext.alloc | apply Ext.ext | apply Ext.drew | refine Ext.trans ?_ (by assumption))))) ?_; clear hKR R; (try simp only [Act.put, List.setIfInBounds_toArray, List.set_cons_zero, List.set_cons_succ])))
        refine gap_nil ?_
        intro V1 p1 hV1 hp1 hl1 hiv1
        refine ⟨_, rfl, rfl, by simp [Value.oneCell'], rfl, fun W1 hE1 hc1 hb1 => ?_⟩
        (try simp only [Act.put, List.setIfInBounds_toArray, List.set_cons_zero, List.set_cons_succ])
        repeat (refine mix_pure rfl ?_; (first | go_big_quiet_skip | (go_big_quiet_want; go_big_quiet_op; go_big_quiet_on)); refine wpQuiet_nil ?_)
        refine mix_nil ?_
        have EW1 : Ext W W1 := (by ((try simp only [ext_drew]); (try simp only [ext_ext]); repeat (first | exact Ext.refl _ | with_reducible apply Ext.add | with_reducible apply Ext.dr | apply Ext.alloc | apply Ext.ext | apply Ext.drew | refine Ext.trans ?_ (by assumption))))
        have lM1 : W.heap.size < W1.heap.size := Nat.lt_of_lt_of_le (by (try simp [go_sem]) <;> (try simp [Xt.add]) <;> omega) hE1.size
        have lG1 : W.heap.size + 1 < W1.heap.size := Nat.lt_of_lt_of_le (by (try simp [go_sem]) <;> (try simp [Xt.add]) <;> omega) hE1.size
        have lH1 : W.heap.size + 1 + 1 < W1.heap.size := Nat.lt_of_lt_of_le (by (try simp [go_sem]) <;> (try simp [Xt.add]) <;> omega) hE1.size
        have cM10 : W1.cell? ⟨W.heap.size, 0, none⟩ = some (.int .i64 m.c) := (hE1.cell (by (try simp [go_sem]) <;> (try simp [Xt.add]) <;> omega) 0).trans (by simp [go_sem])
        have cM11 : W1.cell? ⟨W.heap.size, 1, none⟩ = some (.int .i64 m.w) := (hE1.cell (by (try simp [go_sem]) <;> (try simp [Xt.add]) <;> omega) 1).trans (by simp [go_sem])
        have cG10 : W1.cell? ⟨W.heap.size + 1, 0, none⟩ = some (.slice b_a b_n b_c) := (hE1.cell (by (try simp [go_sem]) <;> (try simp [Xt.add]) <;> omega) 0).trans (by simp [go_sem])
        have cH10 : W1.cell? ⟨W.heap.size + 1 + 1, 0, none⟩ = some (.slice t_a1 t_n1 t_c1) := (hE1.cell (by (try simp [go_sem]) <;> (try simp [Xt.add]) <;> omega) 0).trans (by simp [go_sem])
        have cH11 : W1.cell? ⟨W.heap.size + 1 + 1, 1, none⟩ = some (.slice t_a2 t_n2 t_c2) := (hE1.cell (by (try simp [go_sem]) <;> (try simp [Xt.add]) <;> omega) 1).trans (by simp [go_sem])
        have lp1 := lt_blk hb1
        have HB1 := hid hb1
        clear hE1 hc1 hb1 hiv1 hl1 hp1 hV1 hR0 hR1 hO
        generalize hHe : W.heap.size + 1 + 1 = H at *
        generalize hGe : W.heap.size + 1 = G at *
        clear hHe hGe
        try go_wp2_with (first
            | (go_at_call 14; (with_reducible refine (toGwy_c _ _ _ _ _ (Re.of (Hid.out (by assumption)) (by ((try simp only [ext_drew]); (try simp only [ext_ext]); repeat (first | exact Ext.refl _ | with_reducible apply Ext.add | with_reducible apply Ext.dr | apply Ext.alloc | apply Ext.ext | apply Ext.drew | refine Ext.trans ?_ (by assumption))))) (by omega)).mono ?_); rintro e w' ⟨a8, c8, rfl, ⟨t8, rfl⟩, ho8⟩; have hR8 := hid (re_Gwy ho8.re); clear ho8) | (go_at_call 15; (with_reducible refine (toArb_c _ _ _ _ _ _ _ _ _ (Re.of (Hid.out (by assumption)) (by ((try simp only [ext_drew]); (try simp only [ext_ext]); repeat (first | exact Ext.refl _ | with_reducible apply Ext.add | with_reducible apply Ext.dr | apply Ext.alloc | apply Ext.ext | apply Ext.drew | refine Ext.trans ?_ (by assumption))))) (Re.of (Hid.out (by assumption)) (by ((try simp only [ext_drew]); (try simp only [ext_ext]); repeat (first | exact Ext.refl _ | with_reducible apply Ext.add | with_reducible apply Ext.dr | apply Ext.alloc | apply Ext.ext | apply Ext.drew | refine Ext.trans ?_ (by assumption))))) (by omega) (by omega)).mono ?_); rintro e w' ⟨a6, c6, a7, c7, rfl, ⟨t7, rfl⟩, ho7⟩; have hR6 := hid (re_Arb ho7.re).1; have hR7 := hid (re_Arb ho7.re).2; clear ho7)
            | (
              with_reducible refine wp_region_mix (by kernel_rfl) (by decide +kernel) ?_
              repeat (first
                | (refine mix_pure rfl ?_; (first | go_big_quiet_skip | (go_big_quiet_want; go_big_quiet_op; go_big_quiet_on)); refine wpQuiet_nil ?_)
                | (refine mix_skip (by rfl) ?_; (try simp only [Act.put, List.setIfInBounds_toArray, List.set_cons_zero, List.set_cons_succ]))
                | (refine mix_mk rfl (by rfl) (fun K hK => ?_); (first | (go_simp; first | (go_at_call 14; (with_reducible refine (toGwy_c _ _ _ _ _ (Re.of (Hid.out (by assumption)) (by ((try simp only [ext_drew]); (try simp only [ext_ext]); repeat (first | exact Ext.refl _ | with_reducible apply Ext.add | with_reducible apply Ext.dr | apply Ext.alloc | apply Ext.ext | apply Ext.drew | refine Ext.trans ?_ (by assumption))))) (by omega)).mono ?_); rintro e w' ⟨a8, c8, rfl, ⟨t8, rfl⟩, ho8⟩; have hR8 := hid (re_Gwy ho8.re); clear ho8) | (go_at_call 15; (with_reducible refine (toArb_c _ _ _ _ _ _ _ _ _ (Re.of (Hid.out (by assumption)) (by ((try simp only [ext_drew]); (try simp only [ext_ext]); repeat (first | exact Ext.refl _ | with_reducible apply Ext.add | with_reducible apply Ext.dr | apply Ext.alloc | apply Ext.ext | apply Ext.drew | refine Ext.trans ?_ (by assumption))))) (Re.of (Hid.out (by assumption)) (by ((try simp only [ext_drew]); (try simp only [ext_ext]); repeat (first | exact Ext.refl _ | with_reducible apply Ext.add | with_reducible apply Ext.dr | apply Ext.alloc | apply Ext.ext | apply Ext.drew | refine Ext.trans ?_ (by assumption))))) (by omega) (by omega)).mono ?_); rintro e w' ⟨a6, c6, a7, c7, rfl, ⟨t7, rfl⟩, ho7⟩; have hR6 := hid (re_Arb ho7.re).1; have hR7 := hid (re_Arb ho7.re).2; clear ho7) | skip)); (show K _ _); refine hK _ _ (show Ext _ _ from (by ((try simp only [ext_drew]); (try simp only [ext_ext]); repeat (first | exact Ext.refl _ | with_reducible apply Ext.add | with_reducible apply Ext.dr | apply Ext.alloc | apply Ext.ext | apply Ext.drew | refine Ext.trans ?_ (by assumption))))) ?_; clear hK K; (try simp only [Act.put, List.setIfInBounds_toArray, List.set_cons_zero, List.set_cons_succ])))
              refine mix_nil ?_)
            | (
              with_reducible refine wp_region_ext (by kernel_rfl) (by kernel_rfl) ?_
              repeat (first | go_big_quiet_skip | (go_big_quiet_want; go_big_quiet_op; first | go_big_quiet_on | (apply Exists.intro; refine ⟨fun _ => ?_, ?_⟩; (fail); (try rw [h1]); (try rw [h2]); (try rw [h3]); (try rw [h4]); (try rw [p1]); (try rw [p2]); (try rw [p3]); (try rw [p4]); (try rw [r1]); (try rw [r2]); (try rw [r3]); (try rw [r4]); (try rw [r5]); (try rw [r6]); (try rw [q3]); (try rw [q4]); (try rw [hp]); (try rw [hq]); go_big_quiet_on)))
              refine wpQuiet_nil ?_
              rintro _ ⟨tq, rfl⟩))
        refine wp_gen fun X1 hX1 => ?_
        have EX : Ext W1 X1 := by rw [hX1]; ((try simp only [ext_drew]); (try simp only [ext_ext]); repeat (first | exact Ext.refl _ | with_reducible apply Ext.add | with_reducible apply Ext.dr | apply Ext.alloc | apply Ext.ext | apply Ext.drew | refine Ext.trans ?_ (by assumption)))
        have HR8 := hid (show Re X1 (.sl sRow) [.slice a8 b_n c8] (.l (b.map Row.dat)) by rw [hX1]; exact hR8.out.of (by ((try simp only [ext_drew]); (try simp only [ext_ext]); repeat (first | exact Ext.refl _ | with_reducible apply Ext.add | with_reducible apply Ext.dr | apply Ext.alloc | apply Ext.ext | apply Ext.drew | refine Ext.trans ?_ (by assumption)))))
        have HR6 := hid (show Re X1 (.sl .int) [.slice a6 t_n1 c6] (.l (t1.map Dat.i)) by rw [hX1]; exact hR6.out.of (by ((try simp only [ext_drew]); (try simp only [ext_ext]); repeat (first | exact Ext.refl _ | with_reducible apply Ext.add | with_reducible apply Ext.dr | apply Ext.alloc | apply Ext.ext | apply Ext.drew | refine Ext.trans ?_ (by assumption)))))
        have HR7 := hid (show Re X1 (.sl .int) [.slice a7 t_n2 c7] (.l (t2.map Dat.i)) by rw [hX1]; exact hR7.out.of (by ((try simp only [ext_drew]); (try simp only [ext_ext]); repeat (first | exact Ext.refl _ | with_reducible apply Ext.add | with_reducible apply Ext.dr | apply Ext.alloc | apply Ext.ext | apply Ext.drew | refine Ext.trans ?_ (by assumption)))))
        have lX : W1.heap.size + t8.bs.size < X1.heap.size := by rw [hX1]; ((try simp [go_sem]) <;> (try simp [Xt.add]) <;> omega)
        have lY : W1.heap.size + t8.bs.size + 1 + t7.bs.size < X1.heap.size := by rw [hX1]; ((try simp [go_sem]) <;> (try simp [Xt.add]) <;> omega)
        have cX0 : X1.cell? ⟨W1.heap.size + t8.bs.size, 0, none⟩ = some (.slice a8 b_n c8) := by rw [hX1]; simp [go_sem]
        have cY0 : X1.cell? ⟨W1.heap.size + t8.bs.size + 1 + t7.bs.size, 0, none⟩ = some (.slice a6 t_n1 c6) := by rw [hX1]; simp [go_sem]
        have cY1 : X1.cell? ⟨W1.heap.size + t8.bs.size + 1 + t7.bs.size, 1, none⟩ = some (.slice a7 t_n2 c7) := by rw [hX1]; simp [go_sem]
        generalize hYe : W1.heap.size + t8.bs.size + 1 + t7.bs.size = Y at *
        generalize hXe : W1.heap.size + t8.bs.size = X at *
        have lMX := Nat.lt_of_lt_of_le lM1 EX.size
        have lGX := Nat.lt_of_lt_of_le lG1 EX.size
        have lHX := Nat.lt_of_lt_of_le lH1 EX.size
        have lpX := Nat.lt_of_lt_of_le lp1 EX.size
        have cMX0 := (EX.cell lM1 0).trans cM10
        have cMX1 := (EX.cell lM1 1).trans cM11
        have cGX0 := (EX.cell lG1 0).trans cG10
        have cHX0 := (EX.cell lH1 0).trans cH10
        have cHX1 := (EX.cell lH1 1).trans cH11
        clear hX1 hYe hXe hR8 hR6 hR7 cM10 cM11 cG10 cH10 cH11
        refine wp_region_gapT' 10 11 #[.int .i64 0, .int .i64 0, .int .i64 0, .int .i64 0, .int .i64 0, .int .i64 0, .int .i64 0, .int .i64 0, .int .i64 0, .int .i64 0, .int .i64 0, .int .i64 0, .int .i64 0, .int .i64 0, .int .i64 0, .int .i64 0, .int .i64 0, .int .i64 0, .int .i64 0, .int .i64 0, .int .i64 0, .int .i64 0, .int .i64 0, .int .i64 0, .int .i64 0] 44 (by kernel_rfl) (by decide +kernel) (by kernel_rfl) rfl (by kernel_rfl) rfl rfl rfl rfl rfl rfl rfl rfl (fun a w => by go_simp) ?_
        simp only [List.take_succ_cons, List.take_zero, List.eraseIdx_cons_succ, List.eraseIdx_cons_zero, List.drop_succ_cons, List.drop_zero]
        repeat (first
          | (refine gap_pure rfl ?_; (first | go_big_quiet_skip | (go_big_quiet_want; go_big_quiet_op; go_big_quiet_on)); refine wpQuiet_nil ?_)
          | (refine gap_skip (by rfl) ?_; (try simp only [Act.put, List.setIfInBounds_toArray, List.set_cons_zero, List.set_cons_succ]))
          | (refine gap_mk rfl (by rfl) (fun V hV R hKR => ?_); (first | (go_simp; first | (go_at_call 8; refine (toMp_c _ _).mono ?_; rintro e w' ⟨rfl, t, rfl⟩) | (go_at_call 16; (with_reducible refine (HI.out _ _ _ _ _ _ _ _ _ _ (Re.of (Hid.out (by assumption)) (by ((try simp only [ext_drew]); (try simp only [ext_ext]); repeat (first | exact Ext.refl _ | with_reducible apply Ext.add | with_reducible apply Ext.dr | apply Ext.alloc | apply Ext.ext | apply Ext.drew | refine Ext.trans ?_ (by assumption))))) (Re.of (Hid.out (by assumption)) (by ((try simp only [ext_drew]); (try simp only [ext_ext]); repeat (first | exact Ext.refl _ | with_reducible apply Ext.add | with_reducible apply Ext.dr | apply Ext.alloc | apply Ext.ext | apply Ext.drew | refine Ext.trans ?_ (by assumption))))) (Re.of (Hid.out (by assumption)) (by ((try simp only [ext_drew]); (try simp only [ext_ext]); repeat (first | exact Ext.refl _ | with_reducible apply Ext.add | with_reducible apply Ext.dr | apply Ext.alloc | apply Ext.ext | apply Ext.drew | refine Ext.trans ?_ (by assumption))))) (by omega) (by omega) (by omega)).mono ?_); rintro e w' ⟨rfl, t, rfl⟩) | skip)); (show R _ _); refine hKR _ _ (show Ext _ _ from (by ((try simp only [ext_drew]); (try simp only [ext_ext]); repeat (first | exact Ext.refl _ | with_reducible apply Ext.add | with_reducible apply Ext.dr | apply Ext.alloc | apply Ext.ext | apply Ext.drew | refine Ext.trans ?_ (by assumption))))) ?_; clear hKR R; (try simp only [Act.put, List.setIfInBounds_toArray, List.set_cons_zero, List.set_cons_succ])))
        refine gap_nil ?_
        intro V2 p2 hV2 hp2 hl2 hiv2
        refine ⟨_, rfl, rfl, by simp [Value.oneCell'], rfl, fun W2 hE2 hc2 hb2 => ?_⟩
        (try simp only [Act.put, List.setIfInBounds_toArray, List.set_cons_zero, List.set_cons_succ])
        repeat (refine mix_pure rfl ?_; (first | go_big_quiet_skip | (go_big_quiet_want; go_big_quiet_op; go_big_quiet_on)); refine wpQuiet_nil ?_)
        refine mix_nil ?_
        have EW2 : Ext X1 W2 := (by ((try simp only [ext_drew]); (try simp only [ext_ext]); repeat (first | exact Ext.refl _ | with_reducible apply Ext.add | with_reducible apply Ext.dr | apply Ext.alloc | apply Ext.ext | apply Ext.drew | refine Ext.trans ?_ (by assumption))))
        have lM2 := Nat.lt_of_lt_of_le lMX EW2.size
        have lG2 := Nat.lt_of_lt_of_le lGX EW2.size
        have lH2 := Nat.lt_of_lt_of_le lHX EW2.size
        have lp12 := Nat.lt_of_lt_of_le lpX EW2.size
        have lX2 := Nat.lt_of_lt_of_le lX EW2.size
        have lY2 := Nat.lt_of_lt_of_le lY EW2.size
        have lp2 := lt_blk hb2
        have cM20 := (EW2.cell lMX 0).trans cMX0
        have cM21 := (EW2.cell lMX 1).trans cMX1
        have cG20 := (EW2.cell lGX 0).trans cGX0
        have cH20 := (EW2.cell lHX 0).trans cHX0
        have cH21 := (EW2.cell lHX 1).trans cHX1
        have cX2 := (EW2.cell lX 0).trans cX0
        have cY20 := (EW2.cell lY 0).trans cY0
        have cY21 := (EW2.cell lY 1).trans cY1
        have HB1' := hid ((EW2.block lpX).trans ((EX.block lp1).trans HB1.out))
        have HB2 := hid hb2
        clear hE2 hc2 hb2 hiv2 hl2 hp2 hV2 cX0 cY0 cY1 cMX0 cMX1 cGX0 cHX0 cHX1
        try go_wp2_with (first
            | (go_at_call 17; refine (eqMsgX_c _ _).mono ?_; rintro e w' ⟨rfl, t, rfl⟩) | (go_at_call 14; refine (toGwy_c _ _ _ _ _ (Re.of (Hid.out (by assumption)) (by ((try simp only [ext_drew]); (try simp only [ext_ext]); repeat (first | exact Ext.refl _ | with_reducible apply Ext.add | with_reducible apply Ext.dr | apply Ext.alloc | apply Ext.ext | apply Ext.drew | refine Ext.trans ?_ (by assumption))))) (by omega)).mono ?_; rintro e w' ⟨a0, c0, rfl, ⟨t, rfl⟩, ho⟩; have hR := re_Gwy ho.re; have hR0 := hid hR; clear hR; have hO := hid ho; clear ho) | (go_at_call 18; refine (eqGwy_c _ _ _ _ _ _ _ (Re.of (Hid.out (by assumption)) (by ((try simp only [ext_drew]); (try simp only [ext_ext]); repeat (first | exact Ext.refl _ | with_reducible apply Ext.add | with_reducible apply Ext.dr | apply Ext.alloc | apply Ext.ext | apply Ext.drew | refine Ext.trans ?_ (by assumption))))) (Re.of (Hid.out (by assumption)) (by ((try simp only [ext_drew]); (try simp only [ext_ext]); repeat (first | exact Ext.refl _ | with_reducible apply Ext.add | with_reducible apply Ext.dr | apply Ext.alloc | apply Ext.ext | apply Ext.drew | refine Ext.trans ?_ (by assumption))))) (by omega)).mono ?_; rintro e w' ⟨rfl, t, rfl⟩) | (go_at_call 15; refine (toArb_c _ _ _ _ _ _ _ _ _ (Re.of (Hid.out (by assumption)) (by ((try simp only [ext_drew]); (try simp only [ext_ext]); repeat (first | exact Ext.refl _ | with_reducible apply Ext.add | with_reducible apply Ext.dr | apply Ext.alloc | apply Ext.ext | apply Ext.drew | refine Ext.trans ?_ (by assumption))))) (Re.of (Hid.out (by assumption)) (by ((try simp only [ext_drew]); (try simp only [ext_ext]); repeat (first | exact Ext.refl _ | with_reducible apply Ext.add | with_reducible apply Ext.dr | apply Ext.alloc | apply Ext.ext | apply Ext.drew | refine Ext.trans ?_ (by assumption))))) (by omega) (by omega)).mono ?_; rintro e w' ⟨a0, c0, a1, c1, rfl, ⟨t, rfl⟩, ho⟩; have hR := re_Arb ho.re; have hR0 := hid hR.1; have hR1 := hid hR.2; clear hR; have hO := hid ho; clear ho) | (go_at_call 19; refine (eqArb_c _ _ _ _ _ _ _ _ _ _ _ _ _ (Re.of (Hid.out (by assumption)) (by ((try simp only [ext_drew]); (try simp only [ext_ext]); repeat (first | exact Ext.refl _ | with_reducible apply Ext.add | with_reducible apply Ext.dr | apply Ext.alloc | apply Ext.ext | apply Ext.drew | refine Ext.trans ?_ (by assumption))))) (Re.of (Hid.out (by assumption)) (by ((try simp only [ext_drew]); (try simp only [ext_ext]); repeat (first | exact Ext.refl _ | with_reducible apply Ext.add | with_reducible apply Ext.dr | apply Ext.alloc | apply Ext.ext | apply Ext.drew | refine Ext.trans ?_ (by assumption))))) (Re.of (Hid.out (by assumption)) (by ((try simp only [ext_drew]); (try simp only [ext_ext]); repeat (first | exact Ext.refl _ | with_reducible apply Ext.add | with_reducible apply Ext.dr | apply Ext.alloc | apply Ext.ext | apply Ext.drew | refine Ext.trans ?_ (by assumption))))) (Re.of (Hid.out (by assumption)) (by ((try simp only [ext_drew]); (try simp only [ext_ext]); repeat (first | exact Ext.refl _ | with_reducible apply Ext.add | with_reducible apply Ext.dr | apply Ext.alloc | apply Ext.ext | apply Ext.drew | refine Ext.trans ?_ (by assumption))))) (by omega) (by omega)).mono ?_; rintro e w' ⟨rfl, t, rfl⟩) | ((with_reducible refine load_gate (T1 := 44) ?_); (first | refine wpList_loadW rfl _ _ rfl p2 #[.int .i64 v.kind, .int .i64 v.to_, .int .i64 v.cell, .int .i64 v.side, .int .i64 v.n, .int .i64 v.ord.who, .int .i64 v.ord.seq, .int .i64 v.ord.kind, .int .i64 v.ord.to_, .int .i64 v.ord.n, .int .i64 v.pcl.n, .int .i64 v.pcl.kind, .int .i64 v.pcl.wk.id, .int .i64 v.pcl.wk.at_, .int .i64 v.pcl.wk.coins, .int .i64 v.pcl.wk.seq, .int .i64 v.pcl.wk.last, .int .i64 v.pcl.coins, .int .i64 v.gst.src, .int .i64 v.gst.count, .int .i64 v.gst.wk.id, .int .i64 v.gst.wk.at_, .int .i64 v.gst.wk.coins, .int .i64 v.gst.wk.seq, .int .i64 v.gst.wk.last] 44 _ rfl HB2.out Try.underlying44 rfl (by kernel_rfl) ?_ | refine wpList_loadW rfl _ _ rfl p1 #[.int .i64 v.kind, .int .i64 v.to_, .int .i64 v.cell, .int .i64 v.side, .int .i64 v.n, .int .i64 v.ord.who, .int .i64 v.ord.seq, .int .i64 v.ord.kind, .int .i64 v.ord.to_, .int .i64 v.ord.n, .int .i64 v.pcl.n, .int .i64 v.pcl.kind, .int .i64 v.pcl.wk.id, .int .i64 v.pcl.wk.at_, .int .i64 v.pcl.wk.coins, .int .i64 v.pcl.wk.seq, .int .i64 v.pcl.wk.last, .int .i64 v.pcl.coins, .int .i64 v.gst.src, .int .i64 v.gst.count, .int .i64 v.gst.wk.id, .int .i64 v.gst.wk.at_, .int .i64 v.gst.wk.coins, .int .i64 v.gst.wk.seq, .int .i64 v.gst.wk.last] 44 _ rfl HB1'.out Try.underlying44 rfl (by kernel_rfl) ?_))
            | (
              with_reducible refine wp_region_mix (by kernel_rfl) (by decide +kernel) ?_
              repeat (first
                | (refine mix_pure rfl ?_; (first | go_big_quiet_skip | (go_big_quiet_want; go_big_quiet_op; go_big_quiet_on)); refine wpQuiet_nil ?_)
                | (refine mix_skip (by rfl) ?_; (try simp only [Act.put, List.setIfInBounds_toArray, List.set_cons_zero, List.set_cons_succ]))
                | (refine mix_mk rfl (by rfl) (fun K hK => ?_); (first | (go_simp; first | (go_at_call 17; refine (eqMsgX_c _ _).mono ?_; rintro e w' ⟨rfl, t, rfl⟩) | (go_at_call 14; refine (toGwy_c _ _ _ _ _ (Re.of (Hid.out (by assumption)) (by ((try simp only [ext_drew]); (try simp only [ext_ext]); repeat (first | exact Ext.refl _ | with_reducible apply Ext.add | with_reducible apply Ext.dr | apply Ext.alloc | apply Ext.ext | apply Ext.drew | refine Ext.trans ?_ (by assumption))))) (by omega)).mono ?_; rintro e w' ⟨a0, c0, rfl, ⟨t, rfl⟩, ho⟩; have hR := re_Gwy ho.re; have hR0 := hid hR; clear hR; have hO := hid ho; clear ho) | (go_at_call 18; refine (eqGwy_c _ _ _ _ _ _ _ (Re.of (Hid.out (by assumption)) (by ((try simp only [ext_drew]); (try simp only [ext_ext]); repeat (first | exact Ext.refl _ | with_reducible apply Ext.add | with_reducible apply Ext.dr | apply Ext.alloc | apply Ext.ext | apply Ext.drew | refine Ext.trans ?_ (by assumption))))) (Re.of (Hid.out (by assumption)) (by ((try simp only [ext_drew]); (try simp only [ext_ext]); repeat (first | exact Ext.refl _ | with_reducible apply Ext.add | with_reducible apply Ext.dr | apply Ext.alloc | apply Ext.ext | apply Ext.drew | refine Ext.trans ?_ (by assumption))))) (by omega)).mono ?_; rintro e w' ⟨rfl, t, rfl⟩) | (go_at_call 15; refine (toArb_c _ _ _ _ _ _ _ _ _ (Re.of (Hid.out (by assumption)) (by ((try simp only [ext_drew]); (try simp only [ext_ext]); repeat (first | exact Ext.refl _ | with_reducible apply Ext.add | with_reducible apply Ext.dr | apply Ext.alloc | apply Ext.ext | apply Ext.drew | refine Ext.trans ?_ (by assumption))))) (Re.of (Hid.out (by assumption)) (by ((try simp only [ext_drew]); (try simp only [ext_ext]); repeat (first | exact Ext.refl _ | with_reducible apply Ext.add | with_reducible apply Ext.dr | apply Ext.alloc | apply Ext.ext | apply Ext.drew | refine Ext.trans ?_ (by assumption))))) (by omega) (by omega)).mono ?_; rintro e w' ⟨a0, c0, a1, c1, rfl, ⟨t, rfl⟩, ho⟩; have hR := re_Arb ho.re; have hR0 := hid hR.1; have hR1 := hid hR.2; clear hR; have hO := hid ho; clear ho) | (go_at_call 19; refine (eqArb_c _ _ _ _ _ _ _ _ _ _ _ _ _ (Re.of (Hid.out (by assumption)) (by ((try simp only [ext_drew]); (try simp only [ext_ext]); repeat (first | exact Ext.refl _ | with_reducible apply Ext.add | with_reducible apply Ext.dr | apply Ext.alloc | apply Ext.ext | apply Ext.drew | refine Ext.trans ?_ (by assumption))))) (Re.of (Hid.out (by assumption)) (by ((try simp only [ext_drew]); (try simp only [ext_ext]); repeat (first | exact Ext.refl _ | with_reducible apply Ext.add | with_reducible apply Ext.dr | apply Ext.alloc | apply Ext.ext | apply Ext.drew | refine Ext.trans ?_ (by assumption))))) (Re.of (Hid.out (by assumption)) (by ((try simp only [ext_drew]); (try simp only [ext_ext]); repeat (first | exact Ext.refl _ | with_reducible apply Ext.add | with_reducible apply Ext.dr | apply Ext.alloc | apply Ext.ext | apply Ext.drew | refine Ext.trans ?_ (by assumption))))) (Re.of (Hid.out (by assumption)) (by ((try simp only [ext_drew]); (try simp only [ext_ext]); repeat (first | exact Ext.refl _ | with_reducible apply Ext.add | with_reducible apply Ext.dr | apply Ext.alloc | apply Ext.ext | apply Ext.drew | refine Ext.trans ?_ (by assumption))))) (by omega) (by omega)).mono ?_; rintro e w' ⟨rfl, t, rfl⟩) | ((with_reducible refine load_gate (T1 := 44) ?_); (first | refine wpList_loadW rfl _ _ rfl p2 #[.int .i64 v.kind, .int .i64 v.to_, .int .i64 v.cell, .int .i64 v.side, .int .i64 v.n, .int .i64 v.ord.who, .int .i64 v.ord.seq, .int .i64 v.ord.kind, .int .i64 v.ord.to_, .int .i64 v.ord.n, .int .i64 v.pcl.n, .int .i64 v.pcl.kind, .int .i64 v.pcl.wk.id, .int .i64 v.pcl.wk.at_, .int .i64 v.pcl.wk.coins, .int .i64 v.pcl.wk.seq, .int .i64 v.pcl.wk.last, .int .i64 v.pcl.coins, .int .i64 v.gst.src, .int .i64 v.gst.count, .int .i64 v.gst.wk.id, .int .i64 v.gst.wk.at_, .int .i64 v.gst.wk.coins, .int .i64 v.gst.wk.seq, .int .i64 v.gst.wk.last] 44 _ rfl HB2.out Try.underlying44 rfl (by kernel_rfl) ?_ | refine wpList_loadW rfl _ _ rfl p1 #[.int .i64 v.kind, .int .i64 v.to_, .int .i64 v.cell, .int .i64 v.side, .int .i64 v.n, .int .i64 v.ord.who, .int .i64 v.ord.seq, .int .i64 v.ord.kind, .int .i64 v.ord.to_, .int .i64 v.ord.n, .int .i64 v.pcl.n, .int .i64 v.pcl.kind, .int .i64 v.pcl.wk.id, .int .i64 v.pcl.wk.at_, .int .i64 v.pcl.wk.coins, .int .i64 v.pcl.wk.seq, .int .i64 v.pcl.wk.last, .int .i64 v.pcl.coins, .int .i64 v.gst.src, .int .i64 v.gst.count, .int .i64 v.gst.wk.id, .int .i64 v.gst.wk.at_, .int .i64 v.gst.wk.coins, .int .i64 v.gst.wk.seq, .int .i64 v.gst.wk.last] 44 _ rfl HB1'.out Try.underlying44 rfl (by kernel_rfl) ?_)) | skip)); (show K _ _); refine hK _ _ (show Ext _ _ from (by ((try simp only [ext_drew]); (try simp only [ext_ext]); repeat (first | exact Ext.refl _ | with_reducible apply Ext.add | with_reducible apply Ext.dr | apply Ext.alloc | apply Ext.ext | apply Ext.drew | refine Ext.trans ?_ (by assumption))))) ?_; clear hK K; (try simp only [Act.put, List.setIfInBounds_toArray, List.set_cons_zero, List.set_cons_succ])))
              refine mix_nil ?_)
            | (
              with_reducible refine wp_region_ext (by kernel_rfl) (by kernel_rfl) ?_
              repeat (first | go_big_quiet_skip | (go_big_quiet_want; go_big_quiet_op; first | go_big_quiet_on | (apply Exists.intro; refine ⟨fun _ => ?_, ?_⟩; ((first | (go_at_call 17; first | exact quiet_call (eqMsgX_c _ _) | exact quiet_call2 (eqMsgX_c _ _)) | (go_at_call 14; first | exact quiet_call (toGwy_c _ _ _ _ _ (Re.of (Hid.out (by assumption)) (by ((try simp only [ext_drew]); (try simp only [ext_ext]); repeat (first | exact Ext.refl _ | with_reducible apply Ext.add | with_reducible apply Ext.dr | apply Ext.alloc | apply Ext.ext | apply Ext.drew | refine Ext.trans ?_ (by assumption))))) (by omega)) | exact quiet_call2 (toGwy_c _ _ _ _ _ (Re.of (Hid.out (by assumption)) (by ((try simp only [ext_drew]); (try simp only [ext_ext]); repeat (first | exact Ext.refl _ | with_reducible apply Ext.add | with_reducible apply Ext.dr | apply Ext.alloc | apply Ext.ext | apply Ext.drew | refine Ext.trans ?_ (by assumption))))) (by omega))) | (go_at_call 18; first | exact quiet_call (eqGwy_c _ _ _ _ _ _ _ (Re.of (Hid.out (by assumption)) (by ((try simp only [ext_drew]); (try simp only [ext_ext]); repeat (first | exact Ext.refl _ | with_reducible apply Ext.add | with_reducible apply Ext.dr | apply Ext.alloc | apply Ext.ext | apply Ext.drew | refine Ext.trans ?_ (by assumption))))) (Re.of (Hid.out (by assumption)) (by ((try simp only [ext_drew]); (try simp only [ext_ext]); repeat (first | exact Ext.refl _ | with_reducible apply Ext.add | with_reducible apply Ext.dr | apply Ext.alloc | apply Ext.ext | apply Ext.drew | refine Ext.trans ?_ (by assumption))))) (by omega)) | exact quiet_call2 (eqGwy_c _ _ _ _ _ _ _ (Re.of (Hid.out (by assumption)) (by ((try simp only [ext_drew]); (try simp only [ext_ext]); repeat (first | exact Ext.refl _ | with_reducible apply Ext.add | with_reducible apply Ext.dr | apply Ext.alloc | apply Ext.ext | apply Ext.drew | refine Ext.trans ?_ (by assumption))))) (Re.of (Hid.out (by assumption)) (by ((try simp only [ext_drew]); (try simp only [ext_ext]); repeat (first | exact Ext.refl _ | with_reducible apply Ext.add | with_reducible apply Ext.dr | apply Ext.alloc | apply Ext.ext | apply Ext.drew | refine Ext.trans ?_ (by assumption))))) (by omega))) | (go_at_call 15; first | exact quiet_call (toArb_c _ _ _ _ _ _ _ _ _ (Re.of (Hid.out (by assumption)) (by ((try simp only [ext_drew]); (try simp only [ext_ext]); repeat (first | exact Ext.refl _ | with_reducible apply Ext.add | with_reducible apply Ext.dr | apply Ext.alloc | apply Ext.ext | apply Ext.drew | refine Ext.trans ?_ (by assumption))))) (Re.of (Hid.out (by assumption)) (by ((try simp only [ext_drew]); (try simp only [ext_ext]); repeat (first | exact Ext.refl _ | with_reducible apply Ext.add | with_reducible apply Ext.dr | apply Ext.alloc | apply Ext.ext | apply Ext.drew | refine Ext.trans ?_ (by assumption))))) (by omega) (by omega)) | exact quiet_call2 (toArb_c _ _ _ _ _ _ _ _ _ (Re.of (Hid.out (by assumption)) (by ((try simp only [ext_drew]); (try simp only [ext_ext]); repeat (first | exact Ext.refl _ | with_reducible apply Ext.add | with_reducible apply Ext.dr | apply Ext.alloc | apply Ext.ext | apply Ext.drew | refine Ext.trans ?_ (by assumption))))) (Re.of (Hid.out (by assumption)) (by ((try simp only [ext_drew]); (try simp only [ext_ext]); repeat (first | exact Ext.refl _ | with_reducible apply Ext.add | with_reducible apply Ext.dr | apply Ext.alloc | apply Ext.ext | apply Ext.drew | refine Ext.trans ?_ (by assumption))))) (by omega) (by omega))) | (go_at_call 19; first | exact quiet_call (eqArb_c _ _ _ _ _ _ _ _ _ _ _ _ _ (Re.of (Hid.out (by assumption)) (by ((try simp only [ext_drew]); (try simp only [ext_ext]); repeat (first | exact Ext.refl _ | with_reducible apply Ext.add | with_reducible apply Ext.dr | apply Ext.alloc | apply Ext.ext | apply Ext.drew | refine Ext.trans ?_ (by assumption))))) (Re.of (Hid.out (by assumption)) (by ((try simp only [ext_drew]); (try simp only [ext_ext]); repeat (first | exact Ext.refl _ | with_reducible apply Ext.add | with_reducible apply Ext.dr | apply Ext.alloc | apply Ext.ext | apply Ext.drew | refine Ext.trans ?_ (by assumption))))) (Re.of (Hid.out (by assumption)) (by ((try simp only [ext_drew]); (try simp only [ext_ext]); repeat (first | exact Ext.refl _ | with_reducible apply Ext.add | with_reducible apply Ext.dr | apply Ext.alloc | apply Ext.ext | apply Ext.drew | refine Ext.trans ?_ (by assumption))))) (Re.of (Hid.out (by assumption)) (by ((try simp only [ext_drew]); (try simp only [ext_ext]); repeat (first | exact Ext.refl _ | with_reducible apply Ext.add | with_reducible apply Ext.dr | apply Ext.alloc | apply Ext.ext | apply Ext.drew | refine Ext.trans ?_ (by assumption))))) (by omega) (by omega)) | exact quiet_call2 (eqArb_c _ _ _ _ _ _ _ _ _ _ _ _ _ (Re.of (Hid.out (by assumption)) (by ((try simp only [ext_drew]); (try simp only [ext_ext]); repeat (first | exact Ext.refl _ | with_reducible apply Ext.add | with_reducible apply Ext.dr | apply Ext.alloc | apply Ext.ext | apply Ext.drew | refine Ext.trans ?_ (by assumption))))) (Re.of (Hid.out (by assumption)) (by ((try simp only [ext_drew]); (try simp only [ext_ext]); repeat (first | exact Ext.refl _ | with_reducible apply Ext.add | with_reducible apply Ext.dr | apply Ext.alloc | apply Ext.ext | apply Ext.drew | refine Ext.trans ?_ (by assumption))))) (Re.of (Hid.out (by assumption)) (by ((try simp only [ext_drew]); (try simp only [ext_ext]); repeat (first | exact Ext.refl _ | with_reducible apply Ext.add | with_reducible apply Ext.dr | apply Ext.alloc | apply Ext.ext | apply Ext.drew | refine Ext.trans ?_ (by assumption))))) (Re.of (Hid.out (by assumption)) (by ((try simp only [ext_drew]); (try simp only [ext_ext]); repeat (first | exact Ext.refl _ | with_reducible apply Ext.add | with_reducible apply Ext.dr | apply Ext.alloc | apply Ext.ext | apply Ext.drew | refine Ext.trans ?_ (by assumption))))) (by omega) (by omega))))); (try rw [h1]); (try rw [h2]); (try rw [h3]); (try rw [h4]); (try rw [p1]); (try rw [p2]); (try rw [p3]); (try rw [p4]); (try rw [r1]); (try rw [r2]); (try rw [r3]); (try rw [r4]); (try rw [r5]); (try rw [r6]); (try rw [q3]); (try rw [q4]); (try rw [hp]); (try rw [hq]); go_big_quiet_on)))
              refine wpQuiet_nil ?_
              rintro _ ⟨tq, rfl⟩))
        go_ret
        exact ⟨rfl, Ext.below (by ((try simp only [ext_drew]); (try simp only [ext_ext]); repeat (first | exact Ext.refl _ | with_reducible apply Ext.add | with_reducible apply Ext.dr | apply Ext.alloc | apply Ext.ext | apply Ext.drew | refine Ext.trans ?_ (by assumption))))⟩

set_option maxRecDepth 100000 in
theorem fnExactGwySay_lifted (os : Os) (started : os.Started) (H : Type) (enc : TypeId × Value → H) :
    ReturnsInHanded {} Try.checked os 4 .any (Rows.fnExactGwySaySpec.pre6 enc Try.prog Try.f4 Rows.fnExactGwySayRow.domain false) (Rows.fnExactGwySaySpec.post enc Try.prog Try.f4 false true false false) := by
  refine returnsInHanded_of_change (C := Try.checked) own_knob started (by kernel_rfl) Try.func4
    (ChangeSpec.witness6 (enc := enc) (C := Try.checked) false ⟨#[], #[.agg #[.int .i64 0, .int .i64 0], .agg #[.slice none 0 0], .agg #[.slice none 0 0, .slice none 0 0], .int .i64 0, .int .i64 0], []⟩ 8 (by kernel_rfl) (by kernel_rfl) (by kernel_rfl) (by kernel_rfl)) ?_
  intro W base args ds gs before hval0 hW _ _
  have hval : ∀ (j : Nat) t v, Try.f4.params[j]? = some t → args[j]? = some v → Value.okWide Try.prog W .any base t v := hval0
  have hfin : ∀ W', Below W.heap.size W W' → Rows.fnExactGwySaySpec.post enc Try.prog Try.f4 false true false false W args (.bool true) W' := fun W' hb =>
    law_post laid_out rfl bool_ty rfl (by kernel_rfl) hW (fun ds h => by match ds, h with | [_, _, _, _, _], _ => rfl) hb
  suffices hwalk : Calls Try.prog 4 args W fun e W' => e = .returned (.bool true) ∧ Below W.heap.size W W' by
    refine hwalk.mono fun e W' ⟨he, hb⟩ => ?_
    subst he
    exact ⟨_, rfl, hfin W' hb⟩
  clear hfin
  obtain ⟨p, q, hA0, hV, _, hfz, hnd⟩ := hW
  have hA : DataW.TrodAll enc Try.prog W 0 (fun _ => true) true Try.f4.params.toList args.toList ds p := hA0
  clear hA0 hval0 hV hfz hnd
  rw [Try.params4] at hA hval
  obtain ⟨v0, vs0, d0, ds0, p0, q0, hargs0, _, _, h0, r0⟩ := trodAll_cons hA
  obtain ⟨v1, vs1, d1, ds1, p1, q1, hargs1, _, _, h1, r1⟩ := trodAll_cons r0
  obtain ⟨v2, vs2, d2, ds2, p2, q2, hargs2, _, _, h2, r2⟩ := trodAll_cons r1
  obtain ⟨v3, vs3, d3, ds3, p3, q3, hargs3, _, _, h3, r3⟩ := trodAll_cons r2
  obtain ⟨v4, vs4, d4, ds4, p4, q4, hargs4, _, _, h4, r4⟩ := trodAll_cons r3
  obtain ⟨hnil, _, _⟩ := trodAll_nil r4
  obtain rfl : args = #[v0, v1, v2, v3, v4] := by cases args; simp_all
  clear hargs0 hargs1 hargs2 hargs3 hargs4 hnil
  obtain ⟨cs0, rfl, _⟩ := okWide_struct Try.underlying23 (hval 0 23 v0 rfl rfl)
  obtain ⟨e0, hd0⟩ := open_arg (s := sMp) (by kernel_rfl) h0
  obtain ⟨m, hm0, _⟩ := rd_Mp hd0
  obtain rfl : cs0 = m.cells.toArray := by rw [← hm0]; rfl
  obtain ⟨cs1, rfl, _⟩ := okWide_struct Try.underlying49 (hval 1 49 v1 rfl rfl)
  obtain ⟨e1, hd1⟩ := open_arg (s := sGwy) (by kernel_rfl) h1
  obtain ⟨b_a, b_n, b_c, b, hm1, h1_b0⟩ := open_Gwy hd1
  obtain rfl : cs1 = #[.slice b_a b_n b_c] := by apply Array.toList_inj.1; exact hm1
  obtain ⟨cs2, rfl, _⟩ := okWide_struct Try.underlying52 (hval 2 52 v2 rfl rfl)
  obtain ⟨e2, hd2⟩ := open_arg (s := sArb) (by kernel_rfl) h2
  obtain ⟨t_a1, t_n1, t_c1, t1, t_a2, t_n2, t_c2, t2, hm2, h2_t0, h2_t1⟩ := open_Arb hd2
  obtain rfl : cs2 = #[.slice t_a1 t_n1 t_c1, .slice t_a2 t_n2 t_c2] := by apply Array.toList_inj.1; exact hm2
  obtain ⟨sv, rfl, _, _, _⟩ := open_int Try.underlying3 (hval 3 3 v3 rfl rfl) h3
  obtain ⟨who, rfl, _, _, _⟩ := open_int Try.underlying3 (hval 4 3 v4 rfl rfl) h4
  exact fnExactGwySay_walk W m b_a b_n b_c b h1_b0 t_a1 t_a2 t_n1 t_c1 t_n2 t_c2 t1 t2 h2_t0 h2_t1 sv who

theorem fnExactGwySay_holds : Rows.FnExactGwySaySaid :=
  OpenClaim.holds_of_wide 4 Try.f4 rfl rfl rfl rfl rfl rfl rfl ⟨rfl, rfl, rfl, rfl, rfl⟩ rfl rfl rfl rfl rfl (by kernel_rfl) Try.func4 (by kernel_rfl)
    (of_decide_eq_true (by kernel_rfl)) (by unfold Func.isWrapper; rw [if_neg (by decide +kernel)]; exact ⟨rfl, rfl⟩)
    (fun os started H enc _ => fnExactGwySay_lifted os started H enc)


end Go.Proofs.Ytnfodkhfoegnaaa
