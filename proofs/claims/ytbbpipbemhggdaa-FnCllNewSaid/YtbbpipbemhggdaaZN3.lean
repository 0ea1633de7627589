/- Packed texts: CllOk, CllCp, CllCpI, CllAkF, CllN, Pure -/
import Derived.Test.YtbbpipbemhggdaaZN2
import Derived.Test.YtbbpipbemhggdaaZN1
namespace Go.Proofs.Ytbbpipbemhggdaa
open Go.RowKit
set_option linter.unusedSimpArgs false
set_option linter.unusedVariables false

def inCell (m : Mp) (cell : Int) (i : Nat) (x : Wlk) : Bool := plcCell m x.at_ == cell
def goesTo (m : Mp) (there : Int) (i : Nat) (p : Pcl) : Bool := !(p.kind == 1) || plcCell m p.wk.at_ == there
def sideOk (m : Mp) (cell side : Int) (outs : List Pcl) (next ins : Int) : Bool :=
  pclListOk m outs next && inB ins 0 5000 && (if plcSide m cell side = -1 then (next == 0) && (ins == 0) else allI (goesTo m (plcSide m cell side)) 0 outs)
def sideAt (m : Mp) (c : Cll) (k : Nat) : Bool :=
  match c.outs[k]?, c.next[k]?, c.ins[k]? with
  | some o, some n, some i => sideOk m c.cell k o n i
  | _, _, _ => false
theorem sideAt_eq {m : Mp} {c : Cll} {k : Nat} {o : List Pcl} {n i : Int} (h1 : c.outs[k]? = some o) (h2 : c.next[k]? = some n) (h3 : c.ins[k]? = some i) : sideAt m c k = sideOk m c.cell k o n i := by
  simp only [sideAt, h1, h2, h3]
def cllHead (m : Mp) (c : Cll) : Bool := plcOk m && inB c.cell 0 (m.c - 1) && wlkAll m c.wk && inB c.ground 0 900 && ((c.outs.length : Int) == 2) && ((c.next.length : Int) == 2) && ((c.ins.length : Int) == 2)
def cllOk (m : Mp) (c : Cll) : Bool := cllHead m c && allI (inCell m c.cell) 0 c.wk && sideAt m c 0 && sideAt m c 1
theorem cllOk_fail_head {m : Mp} {c : Cll} (h : cllHead m c = false) : cllOk m c = false := by simp [cllOk, h]
theorem cllOk_fail_wk {m : Mp} {c : Cll} (h : allI (inCell m c.cell) 0 c.wk = false) : cllOk m c = false := by simp [cllOk, h]
theorem cllOk_fail_side {m : Mp} {c : Cll} {k : Nat} (hk : k < 2) (h : sideAt m c k = false) : cllOk m c = false := by
  match k, hk with
  | 0, _ => simp [cllOk, h]
  | 1, _ => simp [cllOk, h]
theorem cllOk_true {m : Mp} {c : Cll} (h1 : cllHead m c = true) (h2 : allI (inCell m c.cell) 0 c.wk = true) (h3 : ∀ j, j < 2 → sideAt m c j = true) : cllOk m c = true := by
  simp [cllOk, h1, h2, h3 0 (by decide), h3 1 (by decide)]
theorem pcl_nil {m : Mp} {xs : List Pcl} {next : Int} (h : pclListOk m xs next = true) (h0 : next = 0) : xs = [] := by
  simp only [pclListOk, Bool.and_eq_true, decide_eq_true_eq] at h
  have := h.1.2
  exact List.length_eq_zero_iff.1 (by omega)
theorem cllHead_iff {m : Mp} {c : Cll} : cllHead m c = true ↔ plcOk m = true ∧ inB c.cell 0 (m.c - 1) = true ∧ wlkAll m c.wk = true ∧ inB c.ground 0 900 = true ∧ (c.outs.length : Int) = 2 ∧ (c.next.length : Int) = 2 ∧ (c.ins.length : Int) = 2 := by
  simp only [cllHead, Bool.and_eq_true, beq_iff_eq]; simp only [and_assoc]



set_option maxRecDepth 100000 in
set_option maxHeartbeats 4000000 in
theorem iCllOk_c (m : Mp) (c : Cll) (h : CllH) (w : World) (hx : ReC w c h) (hb : BdC c) :
    Calls Try.prog 46 #[.agg #[.int .i64 m.c, .int .i64 m.w], .agg #[.int .i64 c.cell, .slice h.a1 c.wk.length h.c1, .int .i64 c.ground, .slice h.a3 c.outs.length h.c3, .slice h.a4 c.next.length h.c4, .slice h.a5 c.ins.length h.c5]] w fun e w' => e = .returned (.bool (cllOk m c)) ∧ Ext w w' := by
  have H1 := hid hx.r1
  have H3 := hid hx.r3
  have H4 := hid hx.r4
  have H5 := hid hx.r5
  have B1 := hb.b1
  have B3 := hb.b3
  have BO := hid hb.bo
  have B4 := hb.b4
  have B5 := hb.b5
  clear hx hb
  obtain ⟨a1, c1, a3, c3, a4, c4, a5, c5⟩ := h
  dsimp only at H1 H3 H4 H5 ⊢
  cases r0 : wlkAll m c.wk with
  | false =>
    have hfail : cllHead m c = false := by simp [cllHead, r0]
    have E := hid (cllOk_fail_head (m := m) (c := c) hfail)
    clear hfail
    go_enter Try.func46, Try.ntmps46
    try go_wp2_with (first
        | (go_at_call 76; refine (iWlkListOk_c _ _ _ _ _ _ (Re.of (Hid.out (by assumption)) zq0) (by omega)).mono ?_; rintro e w' ⟨rfl, t, rfl⟩) | (go_at_call 57; refine (hasCell_c _ _ _).mono ?_; rintro e w' ⟨rfl, t, rfl⟩) | (go_at_call 61; refine (in_c _ _ _ _).mono ?_; rintro e w' ⟨rfl, rfl⟩)
        | (
          with_reducible refine wp_region_mix (by kernel_rfl) (by decide +kernel) ?_
          repeat (first
            | (refine mix_pure rfl ?_; (first | go_big_quiet_skip | (go_big_quiet_want; go_big_quiet_op; go_big_quiet_on)); refine wpQuiet_nil ?_)
            | (refine mix_skip (by rfl) ?_; (try simp only [Act.put, List.setIfInBounds_toArray, List.set_cons_zero, List.set_cons_succ]))
            | (refine mix_mk rfl (by rfl) (fun K hK => ?_); (first | (go_simp; first | (go_at_call 76; refine (iWlkListOk_c _ _ _ _ _ _ (Re.of (Hid.out (by assumption)) zq0) (by omega)).mono ?_; rintro e w' ⟨rfl, t, rfl⟩) | (go_at_call 57; refine (hasCell_c _ _ _).mono ?_; rintro e w' ⟨rfl, t, rfl⟩) | (go_at_call 61; refine (in_c _ _ _ _).mono ?_; rintro e w' ⟨rfl, rfl⟩) | skip)); (show K _ _); refine hK _ _ (show Ext _ _ from zq0) ?_; clear hK K; (try simp only [Act.put, List.setIfInBounds_toArray, List.set_cons_zero, List.set_cons_succ])))
          refine mix_nil ?_)
        | (
          with_reducible refine wp_region_ext (by kernel_rfl) (by kernel_rfl) ?_
          repeat (first | go_big_quiet_skip | (go_big_quiet_want; go_big_quiet_op; first | go_big_quiet_on | (apply Exists.intro; refine ⟨fun _ => ?_, ?_⟩; ((first | (go_at_call 76; first | exact quiet_call (iWlkListOk_c _ _ _ _ _ _ (Re.of (Hid.out (by assumption)) zq0) (by omega)) | exact quiet_call2 (iWlkListOk_c _ _ _ _ _ _ (Re.of (Hid.out (by assumption)) zq0) (by omega))) | (go_at_call 57; first | exact quiet_call (hasCell_c _ _ _) | exact quiet_call2 (hasCell_c _ _ _)) | (go_at_call 61; first | exact quiet_same (in_c _ _ _ _) | exact quiet_same2 (in_c _ _ _ _)))); (try rw [h1]); (try rw [h2]); (try rw [h3]); (try rw [h4]); (try rw [p1]); (try rw [p2]); (try rw [p3]); (try rw [p4]); (try rw [r1]); (try rw [r2]); (try rw [r3]); (try rw [r4]); (try rw [r5]); (try rw [r6]); (try rw [q3]); (try rw [q4]); (try rw [hp]); (try rw [hq]); go_big_quiet_on)))
          refine wpQuiet_nil ?_
          rintro _ ⟨tq, rfl⟩))
    go_ret
    exact ⟨ret_bool (by rw [E.out]), zq0⟩
  | true =>
    cases r1 : plcOk m with
    | false =>
      have hfail : cllHead m c = false := by simp [cllHead, r1]
      have E := hid (cllOk_fail_head (m := m) (c := c) hfail)
      clear hfail
      go_enter Try.func46, Try.ntmps46
      try go_wp2_with (first
          | (go_at_call 76; refine (iWlkListOk_c _ _ _ _ _ _ (Re.of (Hid.out (by assumption)) zq0) (by omega)).mono ?_; rintro e w' ⟨rfl, t, rfl⟩) | (go_at_call 57; refine (hasCell_c _ _ _).mono ?_; rintro e w' ⟨rfl, t, rfl⟩) | (go_at_call 61; refine (in_c _ _ _ _).mono ?_; rintro e w' ⟨rfl, rfl⟩)
          | (
            with_reducible refine wp_region_mix (by kernel_rfl) (by decide +kernel) ?_
            repeat (first
              | (refine mix_pure rfl ?_; (first | go_big_quiet_skip | (go_big_quiet_want; go_big_quiet_op; go_big_quiet_on)); refine wpQuiet_nil ?_)
              | (refine mix_skip (by rfl) ?_; (try simp only [Act.put, List.setIfInBounds_toArray, List.set_cons_zero, List.set_cons_succ]))
              | (refine mix_mk rfl (by rfl) (fun K hK => ?_); (first | (go_simp; first | (go_at_call 76; refine (iWlkListOk_c _ _ _ _ _ _ (Re.of (Hid.out (by assumption)) zq0) (by omega)).mono ?_; rintro e w' ⟨rfl, t, rfl⟩) | (go_at_call 57; refine (hasCell_c _ _ _).mono ?_; rintro e w' ⟨rfl, t, rfl⟩) | (go_at_call 61; refine (in_c _ _ _ _).mono ?_; rintro e w' ⟨rfl, rfl⟩) | skip)); (show K _ _); refine hK _ _ (show Ext _ _ from zq0) ?_; clear hK K; (try simp only [Act.put, List.setIfInBounds_toArray, List.set_cons_zero, List.set_cons_succ])))
            refine mix_nil ?_)
          | (
            with_reducible refine wp_region_ext (by kernel_rfl) (by kernel_rfl) ?_
            repeat (first | go_big_quiet_skip | (go_big_quiet_want; go_big_quiet_op; first | go_big_quiet_on | (apply Exists.intro; refine ⟨fun _ => ?_, ?_⟩; ((first | (go_at_call 76; first | exact quiet_call (iWlkListOk_c _ _ _ _ _ _ (Re.of (Hid.out (by assumption)) zq0) (by omega)) | exact quiet_call2 (iWlkListOk_c _ _ _ _ _ _ (Re.of (Hid.out (by assumption)) zq0) (by omega))) | (go_at_call 57; first | exact quiet_call (hasCell_c _ _ _) | exact quiet_call2 (hasCell_c _ _ _)) | (go_at_call 61; first | exact quiet_same (in_c _ _ _ _) | exact quiet_same2 (in_c _ _ _ _)))); (try rw [h1]); (try rw [h2]); (try rw [h3]); (try rw [h4]); (try rw [p1]); (try rw [p2]); (try rw [p3]); (try rw [p4]); (try rw [r1]); (try rw [r2]); (try rw [r3]); (try rw [r4]); (try rw [r5]); (try rw [r6]); (try rw [q3]); (try rw [q4]); (try rw [hp]); (try rw [hq]); go_big_quiet_on)))
            refine wpQuiet_nil ?_
            rintro _ ⟨tq, rfl⟩))
      go_ret
      exact ⟨ret_bool (by rw [E.out]), zq0⟩
    | true =>
      cases r2 : inB c.cell 0 (m.c - 1) with
      | false =>
        have hfail : cllHead m c = false := by simp [cllHead, r2]
        have E := hid (cllOk_fail_head (m := m) (c := c) hfail)
        clear hfail
        go_enter Try.func46, Try.ntmps46
        try go_wp2_with (first
            | (go_at_call 76; refine (iWlkListOk_c _ _ _ _ _ _ (Re.of (Hid.out (by assumption)) zq0) (by omega)).mono ?_; rintro e w' ⟨rfl, t, rfl⟩) | (go_at_call 57; refine (hasCell_ok _ (by assumption) _ _).mono ?_; rintro e w' ⟨rfl, t, rfl⟩) | (go_at_call 61; refine (in_c _ _ _ _).mono ?_; rintro e w' ⟨rfl, rfl⟩)
            | (
              with_reducible refine wp_region_mix (by kernel_rfl) (by decide +kernel) ?_
              repeat (first
                | (refine mix_pure rfl ?_; (first | go_big_quiet_skip | (go_big_quiet_want; go_big_quiet_op; go_big_quiet_on)); refine wpQuiet_nil ?_)
                | (refine mix_skip (by rfl) ?_; (try simp only [Act.put, List.setIfInBounds_toArray, List.set_cons_zero, List.set_cons_succ]))
                | (refine mix_mk rfl (by rfl) (fun K hK => ?_); (first | (go_simp; first | (go_at_call 76; refine (iWlkListOk_c _ _ _ _ _ _ (Re.of (Hid.out (by assumption)) zq0) (by omega)).mono ?_; rintro e w' ⟨rfl, t, rfl⟩) | (go_at_call 57; refine (hasCell_ok _ (by assumption) _ _).mono ?_; rintro e w' ⟨rfl, t, rfl⟩) | (go_at_call 61; refine (in_c _ _ _ _).mono ?_; rintro e w' ⟨rfl, rfl⟩) | skip)); (show K _ _); refine hK _ _ (show Ext _ _ from zq0) ?_; clear hK K; (try simp only [Act.put, List.setIfInBounds_toArray, List.set_cons_zero, List.set_cons_succ])))
              refine mix_nil ?_)
            | (
              with_reducible refine wp_region_ext (by kernel_rfl) (by kernel_rfl) ?_
              repeat (first | go_big_quiet_skip | (go_big_quiet_want; go_big_quiet_op; first | go_big_quiet_on | (apply Exists.intro; refine ⟨fun _ => ?_, ?_⟩; ((first | (go_at_call 76; first | exact quiet_call (iWlkListOk_c _ _ _ _ _ _ (Re.of (Hid.out (by assumption)) zq0) (by omega)) | exact quiet_call2 (iWlkListOk_c _ _ _ _ _ _ (Re.of (Hid.out (by assumption)) zq0) (by omega))) | (go_at_call 57; first | exact quiet_call (hasCell_ok _ (by assumption) _ _) | exact quiet_call2 (hasCell_ok _ (by assumption) _ _)) | (go_at_call 61; first | exact quiet_same (in_c _ _ _ _) | exact quiet_same2 (in_c _ _ _ _)))); (try rw [h1]); (try rw [h2]); (try rw [h3]); (try rw [h4]); (try rw [p1]); (try rw [p2]); (try rw [p3]); (try rw [p4]); (try rw [r1]); (try rw [r2]); (try rw [r3]); (try rw [r4]); (try rw [r5]); (try rw [r6]); (try rw [q3]); (try rw [q4]); (try rw [hp]); (try rw [hq]); go_big_quiet_on)))
              refine wpQuiet_nil ?_
              rintro _ ⟨tq, rfl⟩))
        go_ret
        exact ⟨ret_bool (by rw [E.out]), zq0⟩
      | true =>
        cases r3 : inB c.ground 0 900 with
        | false =>
          have hfail : cllHead m c = false := by simp [cllHead, r3]
          have E := hid (cllOk_fail_head (m := m) (c := c) hfail)
          clear hfail
          go_enter Try.func46, Try.ntmps46
          try go_wp2_with (first
              | (go_at_call 76; refine (iWlkListOk_c _ _ _ _ _ _ (Re.of (Hid.out (by assumption)) zq0) (by omega)).mono ?_; rintro e w' ⟨rfl, t, rfl⟩) | (go_at_call 57; refine (hasCell_ok _ (by assumption) _ _).mono ?_; rintro e w' ⟨rfl, t, rfl⟩) | (go_at_call 61; refine (in_c _ _ _ _).mono ?_; rintro e w' ⟨rfl, rfl⟩)
              | (
                with_reducible refine wp_region_mix (by kernel_rfl) (by decide +kernel) ?_
                repeat (first
                  | (refine mix_pure rfl ?_; (first | go_big_quiet_skip | (go_big_quiet_want; go_big_quiet_op; go_big_quiet_on)); refine wpQuiet_nil ?_)
                  | (refine mix_skip (by rfl) ?_; (try simp only [Act.put, List.setIfInBounds_toArray, List.set_cons_zero, List.set_cons_succ]))
                  | (refine mix_mk rfl (by rfl) (fun K hK => ?_); (first | (go_simp; first | (go_at_call 76; refine (iWlkListOk_c _ _ _ _ _ _ (Re.of (Hid.out (by assumption)) zq0) (by omega)).mono ?_; rintro e w' ⟨rfl, t, rfl⟩) | (go_at_call 57; refine (hasCell_ok _ (by assumption) _ _).mono ?_; rintro e w' ⟨rfl, t, rfl⟩) | (go_at_call 61; refine (in_c _ _ _ _).mono ?_; rintro e w' ⟨rfl, rfl⟩) | skip)); (show K _ _); refine hK _ _ (show Ext _ _ from zq0) ?_; clear hK K; (try simp only [Act.put, List.setIfInBounds_toArray, List.set_cons_zero, List.set_cons_succ])))
                refine mix_nil ?_)
              | (
                with_reducible refine wp_region_ext (by kernel_rfl) (by kernel_rfl) ?_
                repeat (first | go_big_quiet_skip | (go_big_quiet_want; go_big_quiet_op; first | go_big_quiet_on | (apply Exists.intro; refine ⟨fun _ => ?_, ?_⟩; ((first | (go_at_call 76; first | exact quiet_call (iWlkListOk_c _ _ _ _ _ _ (Re.of (Hid.out (by assumption)) zq0) (by omega)) | exact quiet_call2 (iWlkListOk_c _ _ _ _ _ _ (Re.of (Hid.out (by assumption)) zq0) (by omega))) | (go_at_call 57; first | exact quiet_call (hasCell_ok _ (by assumption) _ _) | exact quiet_call2 (hasCell_ok _ (by assumption) _ _)) | (go_at_call 61; first | exact quiet_same (in_c _ _ _ _) | exact quiet_same2 (in_c _ _ _ _)))); (try rw [h1]); (try rw [h2]); (try rw [h3]); (try rw [h4]); (try rw [p1]); (try rw [p2]); (try rw [p3]); (try rw [p4]); (try rw [r1]); (try rw [r2]); (try rw [r3]); (try rw [r4]); (try rw [r5]); (try rw [r6]); (try rw [q3]); (try rw [q4]); (try rw [hp]); (try rw [hq]); go_big_quiet_on)))
                refine wpQuiet_nil ?_
                rintro _ ⟨tq, rfl⟩))
          go_ret
          exact ⟨ret_bool (by rw [E.out]), zq0⟩
        | true =>
          cases l3 : ((c.outs.length : Int) != 2) with
          | true =>
            have hfail : cllHead m c = false := by simp only [bne, Bool.not_eq_true'] at l3; simp only [cllHead, l3, Bool.and_false, Bool.false_and]
            have E := hid (cllOk_fail_head (m := m) (c := c) hfail)
            clear hfail
            go_enter Try.func46, Try.ntmps46
            try go_wp2_with (first
                | (go_at_call 76; refine (iWlkListOk_c _ _ _ _ _ _ (Re.of (Hid.out (by assumption)) zq0) (by omega)).mono ?_; rintro e w' ⟨rfl, t, rfl⟩) | (go_at_call 57; refine (hasCell_ok _ (by assumption) _ _).mono ?_; rintro e w' ⟨rfl, t, rfl⟩) | (go_at_call 61; refine (in_c _ _ _ _).mono ?_; rintro e w' ⟨rfl, rfl⟩)
                | (
                  with_reducible refine wp_region_mix (by kernel_rfl) (by decide +kernel) ?_
                  repeat (first
                    | (refine mix_pure rfl ?_; (first | go_big_quiet_skip | (go_big_quiet_want; go_big_quiet_op; go_big_quiet_on)); refine wpQuiet_nil ?_)
                    | (refine mix_skip (by rfl) ?_; (try simp only [Act.put, List.setIfInBounds_toArray, List.set_cons_zero, List.set_cons_succ]))
                    | (refine mix_mk rfl (by rfl) (fun K hK => ?_); (first | (go_simp; first | (go_at_call 76; refine (iWlkListOk_c _ _ _ _ _ _ (Re.of (Hid.out (by assumption)) zq0) (by omega)).mono ?_; rintro e w' ⟨rfl, t, rfl⟩) | (go_at_call 57; refine (hasCell_ok _ (by assumption) _ _).mono ?_; rintro e w' ⟨rfl, t, rfl⟩) | (go_at_call 61; refine (in_c _ _ _ _).mono ?_; rintro e w' ⟨rfl, rfl⟩) | skip)); (show K _ _); refine hK _ _ (show Ext _ _ from zq0) ?_; clear hK K; (try simp only [Act.put, List.setIfInBounds_toArray, List.set_cons_zero, List.set_cons_succ])))
                  refine mix_nil ?_)
                | (
                  with_reducible refine wp_region_ext (by kernel_rfl) (by kernel_rfl) ?_
                  repeat (first | go_big_quiet_skip | (go_big_quiet_want; go_big_quiet_op; first | go_big_quiet_on | (apply Exists.intro; refine ⟨fun _ => ?_, ?_⟩; ((first | (go_at_call 76; first | exact quiet_call (iWlkListOk_c _ _ _ _ _ _ (Re.of (Hid.out (by assumption)) zq0) (by omega)) | exact quiet_call2 (iWlkListOk_c _ _ _ _ _ _ (Re.of (Hid.out (by assumption)) zq0) (by omega))) | (go_at_call 57; first | exact quiet_call (hasCell_ok _ (by assumption) _ _) | exact quiet_call2 (hasCell_ok _ (by assumption) _ _)) | (go_at_call 61; first | exact quiet_same (in_c _ _ _ _) | exact quiet_same2 (in_c _ _ _ _)))); (try rw [h1]); (try rw [h2]); (try rw [h3]); (try rw [h4]); (try rw [p1]); (try rw [p2]); (try rw [p3]); (try rw [p4]); (try rw [r1]); (try rw [r2]); (try rw [r3]); (try rw [r4]); (try rw [r5]); (try rw [r6]); (try rw [q3]); (try rw [q4]); (try rw [hp]); (try rw [hq]); go_big_quiet_on)))
                  refine wpQuiet_nil ?_
                  rintro _ ⟨tq, rfl⟩))
            go_ret
            exact ⟨ret_bool (by rw [E.out]), zq0⟩
          | false =>
            cases l4 : ((c.next.length : Int) != 2) with
            | true =>
              have hfail : cllHead m c = false := by simp only [bne, Bool.not_eq_true'] at l4; simp only [cllHead, l4, Bool.and_false, Bool.false_and]
              have E := hid (cllOk_fail_head (m := m) (c := c) hfail)
              clear hfail
              go_enter Try.func46, Try.ntmps46
              try go_wp2_with (first
                  | (go_at_call 76; refine (iWlkListOk_c _ _ _ _ _ _ (Re.of (Hid.out (by assumption)) zq0) (by omega)).mono ?_; rintro e w' ⟨rfl, t, rfl⟩) | (go_at_call 57; refine (hasCell_ok _ (by assumption) _ _).mono ?_; rintro e w' ⟨rfl, t, rfl⟩) | (go_at_call 61; refine (in_c _ _ _ _).mono ?_; rintro e w' ⟨rfl, rfl⟩)
                  | (
                    with_reducible refine wp_region_mix (by kernel_rfl) (by decide +kernel) ?_
                    repeat (first
                      | (refine mix_pure rfl ?_; (first | go_big_quiet_skip | (go_big_quiet_want; go_big_quiet_op; go_big_quiet_on)); refine wpQuiet_nil ?_)
                      | (refine mix_skip (by rfl) ?_; (try simp only [Act.put, List.setIfInBounds_toArray, List.set_cons_zero, List.set_cons_succ]))
                      | (refine mix_mk rfl (by rfl) (fun K hK => ?_); (first | (go_simp; first | (go_at_call 76; refine (iWlkListOk_c _ _ _ _ _ _ (Re.of (Hid.out (by assumption)) zq0) (by omega)).mono ?_; rintro e w' ⟨rfl, t, rfl⟩) | (go_at_call 57; refine (hasCell_ok _ (by assumption) _ _).mono ?_; rintro e w' ⟨rfl, t, rfl⟩) | (go_at_call 61; refine (in_c _ _ _ _).mono ?_; rintro e w' ⟨rfl, rfl⟩) | skip)); (show K _ _); refine hK _ _ (show Ext _ _ from zq0) ?_; clear hK K; (try simp only [Act.put, List.setIfInBounds_toArray, List.set_cons_zero, List.set_cons_succ])))
                    refine mix_nil ?_)
                  | (
                    with_reducible refine wp_region_ext (by kernel_rfl) (by kernel_rfl) ?_
                    repeat (first | go_big_quiet_skip | (go_big_quiet_want; go_big_quiet_op; first | go_big_quiet_on | (apply Exists.intro; refine ⟨fun _ => ?_, ?_⟩; ((first | (go_at_call 76; first | exact quiet_call (iWlkListOk_c _ _ _ _ _ _ (Re.of (Hid.out (by assumption)) zq0) (by omega)) | exact quiet_call2 (iWlkListOk_c _ _ _ _ _ _ (Re.of (Hid.out (by assumption)) zq0) (by omega))) | (go_at_call 57; first | exact quiet_call (hasCell_ok _ (by assumption) _ _) | exact quiet_call2 (hasCell_ok _ (by assumption) _ _)) | (go_at_call 61; first | exact quiet_same (in_c _ _ _ _) | exact quiet_same2 (in_c _ _ _ _)))); (try rw [h1]); (try rw [h2]); (try rw [h3]); (try rw [h4]); (try rw [p1]); (try rw [p2]); (try rw [p3]); (try rw [p4]); (try rw [r1]); (try rw [r2]); (try rw [r3]); (try rw [r4]); (try rw [r5]); (try rw [r6]); (try rw [q3]); (try rw [q4]); (try rw [hp]); (try rw [hq]); go_big_quiet_on)))
                    refine wpQuiet_nil ?_
                    rintro _ ⟨tq, rfl⟩))
              go_ret
              exact ⟨ret_bool (by rw [E.out]), zq0⟩
            | false =>
              cases l5 : ((c.ins.length : Int) != 2) with
              | true =>
                have hfail : cllHead m c = false := by simp only [bne, Bool.not_eq_true'] at l5; simp only [cllHead, l5, Bool.and_false, Bool.false_and]
                have E := hid (cllOk_fail_head (m := m) (c := c) hfail)
                clear hfail
                go_enter Try.func46, Try.ntmps46
                try go_wp2_with (first
                    | (go_at_call 76; refine (iWlkListOk_c _ _ _ _ _ _ (Re.of (Hid.out (by assumption)) zq0) (by omega)).mono ?_; rintro e w' ⟨rfl, t, rfl⟩) | (go_at_call 57; refine (hasCell_ok _ (by assumption) _ _).mono ?_; rintro e w' ⟨rfl, t, rfl⟩) | (go_at_call 61; refine (in_c _ _ _ _).mono ?_; rintro e w' ⟨rfl, rfl⟩)
                    | (
                      with_reducible refine wp_region_mix (by kernel_rfl) (by decide +kernel) ?_
                      repeat (first
                        | (refine mix_pure rfl ?_; (first | go_big_quiet_skip | (go_big_quiet_want; go_big_quiet_op; go_big_quiet_on)); refine wpQuiet_nil ?_)
                        | (refine mix_skip (by rfl) ?_; (try simp only [Act.put, List.setIfInBounds_toArray, List.set_cons_zero, List.set_cons_succ]))
                        | (refine mix_mk rfl (by rfl) (fun K hK => ?_); (first | (go_simp; first | (go_at_call 76; refine (iWlkListOk_c _ _ _ _ _ _ (Re.of (Hid.out (by assumption)) zq0) (by omega)).mono ?_; rintro e w' ⟨rfl, t, rfl⟩) | (go_at_call 57; refine (hasCell_ok _ (by assumption) _ _).mono ?_; rintro e w' ⟨rfl, t, rfl⟩) | (go_at_call 61; refine (in_c _ _ _ _).mono ?_; rintro e w' ⟨rfl, rfl⟩) | skip)); (show K _ _); refine hK _ _ (show Ext _ _ from zq0) ?_; clear hK K; (try simp only [Act.put, List.setIfInBounds_toArray, List.set_cons_zero, List.set_cons_succ])))
                      refine mix_nil ?_)
                    | (
                      with_reducible refine wp_region_ext (by kernel_rfl) (by kernel_rfl) ?_
                      repeat (first | go_big_quiet_skip | (go_big_quiet_want; go_big_quiet_op; first | go_big_quiet_on | (apply Exists.intro; refine ⟨fun _ => ?_, ?_⟩; ((first | (go_at_call 76; first | exact quiet_call (iWlkListOk_c _ _ _ _ _ _ (Re.of (Hid.out (by assumption)) zq0) (by omega)) | exact quiet_call2 (iWlkListOk_c _ _ _ _ _ _ (Re.of (Hid.out (by assumption)) zq0) (by omega))) | (go_at_call 57; first | exact quiet_call (hasCell_ok _ (by assumption) _ _) | exact quiet_call2 (hasCell_ok _ (by assumption) _ _)) | (go_at_call 61; first | exact quiet_same (in_c _ _ _ _) | exact quiet_same2 (in_c _ _ _ _)))); (try rw [h1]); (try rw [h2]); (try rw [h3]); (try rw [h4]); (try rw [p1]); (try rw [p2]); (try rw [p3]); (try rw [p4]); (try rw [r1]); (try rw [r2]); (try rw [r3]); (try rw [r4]); (try rw [r5]); (try rw [r6]); (try rw [q3]); (try rw [q4]); (try rw [hp]); (try rw [hq]); go_big_quiet_on)))
                      refine wpQuiet_nil ?_
                      rintro _ ⟨tq, rfl⟩))
                go_ret
                exact ⟨ret_bool (by rw [E.out]), zq0⟩
              | false =>
                have hl3 : c.outs.length = 2 := by have : (c.outs.length : Int) = 2 := by simpa [bne] using l3
                                                   omega
                have hl4 : c.next.length = 2 := by have : (c.next.length : Int) = 2 := by simpa [bne] using l4
                                                   omega
                have hl5 : c.ins.length = 2 := by have : (c.ins.length : Int) = 2 := by simpa [bne] using l5
                                                  omega
                have HHD := hid (show cllHead m c = true from cllHead_iff.2 ⟨r1, r2, r0, r3, by omega, by omega, by omega⟩)
                have HL3 := hid hl3
                have HL4 := hid hl4
                have HL5 := hid hl5
                clear hl3 hl4 hl5
                go_enter Try.func46, Try.ntmps46
                try go_wp2_with (first
                    | (go_at_call 76; refine (iWlkListOk_c _ _ _ _ _ _ (Re.of (Hid.out (by assumption)) zq0) (by omega)).mono ?_; rintro e w' ⟨rfl, t, rfl⟩) | (go_at_call 57; refine (hasCell_ok _ (by assumption) _ _).mono ?_; rintro e w' ⟨rfl, t, rfl⟩) | (go_at_call 61; refine (in_c _ _ _ _).mono ?_; rintro e w' ⟨rfl, rfl⟩)
                    | (
                      with_reducible refine wp_region_mix (by kernel_rfl) (by decide +kernel) ?_
                      repeat (first
                        | (refine mix_pure rfl ?_; (first | go_big_quiet_skip | (go_big_quiet_want; go_big_quiet_op; go_big_quiet_on)); refine wpQuiet_nil ?_)
                        | (refine mix_skip (by rfl) ?_; (try simp only [Act.put, List.setIfInBounds_toArray, List.set_cons_zero, List.set_cons_succ]))
                        | (refine mix_mk rfl (by rfl) (fun K hK => ?_); (first | (go_simp; first | (go_at_call 76; refine (iWlkListOk_c _ _ _ _ _ _ (Re.of (Hid.out (by assumption)) zq0) (by omega)).mono ?_; rintro e w' ⟨rfl, t, rfl⟩) | (go_at_call 57; refine (hasCell_ok _ (by assumption) _ _).mono ?_; rintro e w' ⟨rfl, t, rfl⟩) | (go_at_call 61; refine (in_c _ _ _ _).mono ?_; rintro e w' ⟨rfl, rfl⟩) | skip)); (show K _ _); refine hK _ _ (show Ext _ _ from zq0) ?_; clear hK K; (try simp only [Act.put, List.setIfInBounds_toArray, List.set_cons_zero, List.set_cons_succ])))
                      refine mix_nil ?_)
                    | (
                      with_reducible refine wp_region_ext (by kernel_rfl) (by kernel_rfl) ?_
                      repeat (first | go_big_quiet_skip | (go_big_quiet_want; go_big_quiet_op; first | go_big_quiet_on | (apply Exists.intro; refine ⟨fun _ => ?_, ?_⟩; ((first | (go_at_call 76; first | exact quiet_call (iWlkListOk_c _ _ _ _ _ _ (Re.of (Hid.out (by assumption)) zq0) (by omega)) | exact quiet_call2 (iWlkListOk_c _ _ _ _ _ _ (Re.of (Hid.out (by assumption)) zq0) (by omega))) | (go_at_call 57; first | exact quiet_call (hasCell_ok _ (by assumption) _ _) | exact quiet_call2 (hasCell_ok _ (by assumption) _ _)) | (go_at_call 61; first | exact quiet_same (in_c _ _ _ _) | exact quiet_same2 (in_c _ _ _ _)))); (try rw [h1]); (try rw [h2]); (try rw [h3]); (try rw [h4]); (try rw [p1]); (try rw [p2]); (try rw [p3]); (try rw [p4]); (try rw [r1]); (try rw [r2]); (try rw [r3]); (try rw [r4]); (try rw [r5]); (try rw [r6]); (try rw [q3]); (try rw [q4]); (try rw [hp]); (try rw [hq]); go_big_quiet_on)))
                      refine wpQuiet_nil ?_
                      rintro _ ⟨tq, rfl⟩))
                go_loopw [50] (fun i wr => ∃ k : Nat, k ≤ c.wk.length ∧ i = .int .i64 k ∧ allI (inCell m c.cell) 0 (c.wk.take k) = true ∧ Ext ((w.alloc (Obj.cells #[.int .i64 m.c, .int .i64 m.w] 24)).alloc (Obj.cells #[.int .i64 c.cell, .slice a1 c.wk.length c1, .int .i64 c.ground, .slice a3 c.outs.length c3, .slice a4 c.next.length c4, .slice a5 c.ins.length c5] 64)) wr) (fun i _ => c.wk.length - (intOf i).toNat)
                case atStart => exact ⟨0, Nat.zero_le _, rfl, rfl, zq0⟩
                case round =>
                  obtain ⟨k, hk, rfl, hal, t', rfl⟩ := hrel
                  have HA := hid hal
                  clear hal
                  by_cases hlt : k < c.wk.length
                  · obtain ⟨x, b, o, hxk, rfl, hb, f0, f1, f2, f3, f4⟩ := at_Wlk H1.out hlt
                    have HK := hid hxk
                    have hb1 : b ≤ w.heap.size := Nat.le_of_lt hb
                    clear hxk
                    cases h1 : (plcCell m x.at_ != c.cell) with
                    | true =>
                      have E := hid (cllOk_fail_wk (m := m) (c := c) (allI_fail (p := inCell m c.cell) HK.out (by simpa [inCell] using h1)))
                      try go_wp2_with (first
                          | (go_at_call 16; refine (iPlcCell_c _ _ _).mono ?_; rintro e w' ⟨rfl, t, rfl⟩)
                          | (
                            with_reducible refine wp_region_mix (by kernel_rfl) (by decide +kernel) ?_
                            repeat (first
                              | (refine mix_pure rfl ?_; (first | go_big_quiet_skip | (go_big_quiet_want; go_big_quiet_op; go_big_quiet_on)); refine wpQuiet_nil ?_)
                              | (refine mix_skip (by rfl) ?_; (try simp only [Act.put, List.setIfInBounds_toArray, List.set_cons_zero, List.set_cons_succ]))
                              | (refine mix_mk rfl (by rfl) (fun K hK => ?_); (first | (go_simp; first | (go_at_call 16; refine (iPlcCell_c _ _ _).mono ?_; rintro e w' ⟨rfl, t, rfl⟩) | skip)); (show K _ _); refine hK _ _ (show Ext _ _ from zq0) ?_; clear hK K; (try simp only [Act.put, List.setIfInBounds_toArray, List.set_cons_zero, List.set_cons_succ])))
                            refine mix_nil ?_)
                          | (
                            with_reducible refine wp_region_ext (by kernel_rfl) (by kernel_rfl) ?_
                            repeat (first | go_big_quiet_skip | (go_big_quiet_want; go_big_quiet_op; first | go_big_quiet_on | (apply Exists.intro; refine ⟨fun _ => ?_, ?_⟩; ((first | (go_at_call 16; first | exact quiet_call (iPlcCell_c _ _ _) | exact quiet_call2 (iPlcCell_c _ _ _)))); (try rw [h1]); (try rw [h2]); (try rw [h3]); (try rw [h4]); (try rw [p1]); (try rw [p2]); (try rw [p3]); (try rw [p4]); (try rw [r1]); (try rw [r2]); (try rw [r3]); (try rw [r4]); (try rw [r5]); (try rw [r6]); (try rw [q3]); (try rw [q4]); (try rw [hp]); (try rw [hq]); go_big_quiet_on)))
                            refine wpQuiet_nil ?_
                            rintro _ ⟨tq, rfl⟩))
                      go_ret
                      exact ⟨ret_bool (by rw [E.out]), zq0⟩
                    | false =>
                      have HB := hid (allI_step (p := inCell m c.cell) HK.out HA.out (by simpa [inCell] using h1))
                      try go_wp2_with (first
                          | (go_at_call 16; refine (iPlcCell_c _ _ _).mono ?_; rintro e w' ⟨rfl, t, rfl⟩)
                          | (
                            with_reducible refine wp_region_mix (by kernel_rfl) (by decide +kernel) ?_
                            repeat (first
                              | (refine mix_pure rfl ?_; (first | go_big_quiet_skip | (go_big_quiet_want; go_big_quiet_op; go_big_quiet_on)); refine wpQuiet_nil ?_)
                              | (refine mix_skip (by rfl) ?_; (try simp only [Act.put, List.setIfInBounds_toArray, List.set_cons_zero, List.set_cons_succ]))
                              | (refine mix_mk rfl (by rfl) (fun K hK => ?_); (first | (go_simp; first | (go_at_call 16; refine (iPlcCell_c _ _ _).mono ?_; rintro e w' ⟨rfl, t, rfl⟩) | skip)); (show K _ _); refine hK _ _ (show Ext _ _ from zq0) ?_; clear hK K; (try simp only [Act.put, List.setIfInBounds_toArray, List.set_cons_zero, List.set_cons_succ])))
                            refine mix_nil ?_)
                          | (
                            with_reducible refine wp_region_ext (by kernel_rfl) (by kernel_rfl) ?_
                            repeat (first | go_big_quiet_skip | (go_big_quiet_want; go_big_quiet_op; first | go_big_quiet_on | (apply Exists.intro; refine ⟨fun _ => ?_, ?_⟩; ((first | (go_at_call 16; first | exact quiet_call (iPlcCell_c _ _ _) | exact quiet_call2 (iPlcCell_c _ _ _)))); (try rw [h1]); (try rw [h2]); (try rw [h3]); (try rw [h4]); (try rw [p1]); (try rw [p2]); (try rw [p3]); (try rw [p4]); (try rw [r1]); (try rw [r2]); (try rw [r3]); (try rw [r4]); (try rw [r5]); (try rw [r6]); (try rw [q3]); (try rw [q4]); (try rw [hp]); (try rw [hq]); go_big_quiet_on)))
                            refine wpQuiet_nil ?_
                            rintro _ ⟨tq, rfl⟩))
                      go_roundw
                      case rel => exact ⟨k + 1, by omega, by go_num, HB.out, zq0⟩
                      case measure => simp [intOf]; omega
                  · have HW := hid (allI_all (p := inCell m c.cell) (xs := c.wk) (k := k) (by omega) HA.out)
                    clear HA
                    try go_wp2_with (first
                        | fail
                        | (
                          with_reducible refine wp_region_mix (by kernel_rfl) (by decide +kernel) ?_
                          repeat (first
                            | (refine mix_pure rfl ?_; (first | go_big_quiet_skip | (go_big_quiet_want; go_big_quiet_op; go_big_quiet_on)); refine wpQuiet_nil ?_)
                            | (refine mix_skip (by rfl) ?_; (try simp only [Act.put, List.setIfInBounds_toArray, List.set_cons_zero, List.set_cons_succ]))
                            | (refine mix_mk rfl (by rfl) (fun K hK => ?_); (first | (go_simp; first | skip)); (show K _ _); refine hK _ _ (show Ext _ _ from zq0) ?_; clear hK K; (try simp only [Act.put, List.setIfInBounds_toArray, List.set_cons_zero, List.set_cons_succ])))
                          refine mix_nil ?_)
                        | (
                          with_reducible refine wp_region_ext (by kernel_rfl) (by kernel_rfl) ?_
                          repeat (first | go_big_quiet_skip | (go_big_quiet_want; go_big_quiet_op; first | go_big_quiet_on | (apply Exists.intro; refine ⟨fun _ => ?_, ?_⟩; (fail); (try rw [h1]); (try rw [h2]); (try rw [h3]); (try rw [h4]); (try rw [p1]); (try rw [p2]); (try rw [p3]); (try rw [p4]); (try rw [r1]); (try rw [r2]); (try rw [r3]); (try rw [r4]); (try rw [r5]); (try rw [r6]); (try rw [q3]); (try rw [q4]); (try rw [hp]); (try rw [hq]); go_big_quiet_on)))
                          refine wpQuiet_nil ?_
                          rintro _ ⟨tq, rfl⟩))
                    go_loopw [62] (fun i wr => ∃ k : Nat, k ≤ 2 ∧ i = .int .i64 k ∧ (∀ j, j < k → sideAt m c j = true) ∧ Ext ((w.alloc (Obj.cells #[.int .i64 m.c, .int .i64 m.w] 24)).alloc (Obj.cells #[.int .i64 c.cell, .slice a1 c.wk.length c1, .int .i64 c.ground, .slice a3 c.outs.length c3, .slice a4 c.next.length c4, .slice a5 c.ins.length c5] 64)) wr) (fun i _ => 2 - (intOf i).toNat)
                    case atStart => exact ⟨0, by omega, rfl, fun j h => absurd h (Nat.not_lt_zero _), zq0⟩
                    case round =>
                      obtain ⟨k2, hk2, rfl, hsd, t2, rfl⟩ := hrel
                      have HSD := hid hsd
                      clear hsd
                      by_cases hlt2 : k2 < 2
                      · have lt3 : k2 < c.outs.length := by rw [HL3.out]; exact hlt2
                        have lt4 : k2 < c.next.length := by rw [HL4.out]; exact hlt2
                        have lt5 : k2 < c.ins.length := by rw [HL5.out]; exact hlt2
                        obtain ⟨xs, b3, o3, xa, xc, hx3, rfl, hb3, f3, hr3⟩ := at_SS H3.out lt3
                        obtain ⟨nx, b4, o4, hx4, rfl, hb4, f4⟩ := at_Int H4.out lt4
                        obtain ⟨ix, b5, o5, hx5, rfl, hb5, f5⟩ := at_Int H5.out lt5
                        have HSE := hid (sideAt_eq (m := m) hx3 hx4 hx5)
                        have hxb : xs.length ≤ 1048576 := BO.out xs (List.mem_of_getElem? hx3)
                        have HR3 := hid hr3
                        have hb3' : b3 ≤ w.heap.size := Nat.le_of_lt hb3
                        have hb4' : b4 ≤ w.heap.size := Nat.le_of_lt hb4
                        have hb5' : b5 ≤ w.heap.size := Nat.le_of_lt hb5
                        clear hx3 hx4 hx5 hr3
                        cases p1 : pclListOk m xs nx with
                        | false =>
                          have E := hid (cllOk_fail_side (m := m) (c := c) hlt2 (by rw [HSE.out]; simp only [sideOk, p1, Bool.false_and]))
                          try go_wp2_with (first
                              | (go_at_call 11; refine (iPlcSide_c _ _ _ _).mono ?_; rintro e w' ⟨rfl, t, rfl⟩) | (go_at_call 30; refine (iPclListOk_c _ _ _ _ _ _ _ (Re.of (Hid.out (by assumption)) zq0) (by omega)).mono ?_; rintro e w' ⟨rfl, t, rfl⟩) | (go_at_call 61; refine (in_c _ _ _ _).mono ?_; rintro e w' ⟨rfl, rfl⟩) | (go_at_call 16; refine (iPlcCell_c _ _ _).mono ?_; rintro e w' ⟨rfl, t, rfl⟩)
                              | (
                                with_reducible refine wp_region_mix (by kernel_rfl) (by decide +kernel) ?_
                                repeat (first
                                  | (refine mix_pure rfl ?_; (first | go_big_quiet_skip | (go_big_quiet_want; go_big_quiet_op; go_big_quiet_on)); refine wpQuiet_nil ?_)
                                  | (refine mix_skip (by rfl) ?_; (try simp only [Act.put, List.setIfInBounds_toArray, List.set_cons_zero, List.set_cons_succ]))
                                  | (refine mix_mk rfl (by rfl) (fun K hK => ?_); (first | (go_simp; first | (go_at_call 11; refine (iPlcSide_c _ _ _ _).mono ?_; rintro e w' ⟨rfl, t, rfl⟩) | (go_at_call 30; refine (iPclListOk_c _ _ _ _ _ _ _ (Re.of (Hid.out (by assumption)) zq0) (by omega)).mono ?_; rintro e w' ⟨rfl, t, rfl⟩) | (go_at_call 61; refine (in_c _ _ _ _).mono ?_; rintro e w' ⟨rfl, rfl⟩) | (go_at_call 16; refine (iPlcCell_c _ _ _).mono ?_; rintro e w' ⟨rfl, t, rfl⟩) | skip)); (show K _ _); refine hK _ _ (show Ext _ _ from zq0) ?_; clear hK K; (try simp only [Act.put, List.setIfInBounds_toArray, List.set_cons_zero, List.set_cons_succ])))
                                refine mix_nil ?_)
                              | (
                                with_reducible refine wp_region_ext (by kernel_rfl) (by kernel_rfl) ?_
                                repeat (first | go_big_quiet_skip | (go_big_quiet_want; go_big_quiet_op; first | go_big_quiet_on | (apply Exists.intro; refine ⟨fun _ => ?_, ?_⟩; ((first | (go_at_call 11; first | exact quiet_call (iPlcSide_c _ _ _ _) | exact quiet_call2 (iPlcSide_c _ _ _ _)) | (go_at_call 30; first | exact quiet_call (iPclListOk_c _ _ _ _ _ _ _ (Re.of (Hid.out (by assumption)) zq0) (by omega)) | exact quiet_call2 (iPclListOk_c _ _ _ _ _ _ _ (Re.of (Hid.out (by assumption)) zq0) (by omega))) | (go_at_call 61; first | exact quiet_same (in_c _ _ _ _) | exact quiet_same2 (in_c _ _ _ _)) | (go_at_call 16; first | exact quiet_call (iPlcCell_c _ _ _) | exact quiet_call2 (iPlcCell_c _ _ _)))); (try rw [h1]); (try rw [h2]); (try rw [h3]); (try rw [h4]); (try rw [p1]); (try rw [p2]); (try rw [p3]); (try rw [p4]); (try rw [r1]); (try rw [r2]); (try rw [r3]); (try rw [r4]); (try rw [r5]); (try rw [r6]); (try rw [q3]); (try rw [q4]); (try rw [hp]); (try rw [hq]); go_big_quiet_on)))
                                refine wpQuiet_nil ?_
                                rintro _ ⟨tq, rfl⟩))
                          go_ret
                          exact ⟨ret_bool (by rw [E.out]), zq0⟩
                        | true =>
                          cases p2 : inB ix 0 5000 with
                          | false =>
                            have E := hid (cllOk_fail_side (m := m) (c := c) hlt2 (by rw [HSE.out]; simp only [sideOk, p2, Bool.false_and, Bool.and_false]))
                            try go_wp2_with (first
                                | (go_at_call 11; refine (iPlcSide_c _ _ _ _).mono ?_; rintro e w' ⟨rfl, t, rfl⟩) | (go_at_call 30; refine (iPclListOk_c _ _ _ _ _ _ _ (Re.of (Hid.out (by assumption)) zq0) (by omega)).mono ?_; rintro e w' ⟨rfl, t, rfl⟩) | (go_at_call 61; refine (in_c _ _ _ _).mono ?_; rintro e w' ⟨rfl, rfl⟩) | (go_at_call 16; refine (iPlcCell_c _ _ _).mono ?_; rintro e w' ⟨rfl, t, rfl⟩)
                                | (
                                  with_reducible refine wp_region_mix (by kernel_rfl) (by decide +kernel) ?_
                                  repeat (first
                                    | (refine mix_pure rfl ?_; (first | go_big_quiet_skip | (go_big_quiet_want; go_big_quiet_op; go_big_quiet_on)); refine wpQuiet_nil ?_)
                                    | (refine mix_skip (by rfl) ?_; (try simp only [Act.put, List.setIfInBounds_toArray, List.set_cons_zero, List.set_cons_succ]))
                                    | (refine mix_mk rfl (by rfl) (fun K hK => ?_); (first | (go_simp; first | (go_at_call 11; refine (iPlcSide_c _ _ _ _).mono ?_; rintro e w' ⟨rfl, t, rfl⟩) | (go_at_call 30; refine (iPclListOk_c _ _ _ _ _ _ _ (Re.of (Hid.out (by assumption)) zq0) (by omega)).mono ?_; rintro e w' ⟨rfl, t, rfl⟩) | (go_at_call 61; refine (in_c _ _ _ _).mono ?_; rintro e w' ⟨rfl, rfl⟩) | (go_at_call 16; refine (iPlcCell_c _ _ _).mono ?_; rintro e w' ⟨rfl, t, rfl⟩) | skip)); (show K _ _); refine hK _ _ (show Ext _ _ from zq0) ?_; clear hK K; (try simp only [Act.put, List.setIfInBounds_toArray, List.set_cons_zero, List.set_cons_succ])))
                                  refine mix_nil ?_)
                                | (
                                  with_reducible refine wp_region_ext (by kernel_rfl) (by kernel_rfl) ?_
                                  repeat (first | go_big_quiet_skip | (go_big_quiet_want; go_big_quiet_op; first | go_big_quiet_on | (apply Exists.intro; refine ⟨fun _ => ?_, ?_⟩; ((first | (go_at_call 11; first | exact quiet_call (iPlcSide_c _ _ _ _) | exact quiet_call2 (iPlcSide_c _ _ _ _)) | (go_at_call 30; first | exact quiet_call (iPclListOk_c _ _ _ _ _ _ _ (Re.of (Hid.out (by assumption)) zq0) (by omega)) | exact quiet_call2 (iPclListOk_c _ _ _ _ _ _ _ (Re.of (Hid.out (by assumption)) zq0) (by omega))) | (go_at_call 61; first | exact quiet_same (in_c _ _ _ _) | exact quiet_same2 (in_c _ _ _ _)) | (go_at_call 16; first | exact quiet_call (iPlcCell_c _ _ _) | exact quiet_call2 (iPlcCell_c _ _ _)))); (try rw [h1]); (try rw [h2]); (try rw [h3]); (try rw [h4]); (try rw [p1]); (try rw [p2]); (try rw [p3]); (try rw [p4]); (try rw [r1]); (try rw [r2]); (try rw [r3]); (try rw [r4]); (try rw [r5]); (try rw [r6]); (try rw [q3]); (try rw [q4]); (try rw [hp]); (try rw [hq]); go_big_quiet_on)))
                                  refine wpQuiet_nil ?_
                                  rintro _ ⟨tq, rfl⟩))
                            go_ret
                            exact ⟨ret_bool (by rw [E.out]), zq0⟩
                          | true =>
                            cases p3 : (plcSide m c.cell (k2 : Int) == -1) with
                            | true =>
                              have P3 := hid (show plcSide m c.cell (k2 : Int) = -1 by simpa using p3)
                              cases p4 : (nx != 0) with
                              | true =>
                                have E := hid (cllOk_fail_side (m := m) (c := c) hlt2 (by rw [HSE.out]; simp only [bne, Bool.not_eq_true'] at p4; simp only [sideOk, P3.out, p4, if_true, Bool.false_and, Bool.and_false]))
                                try go_wp2_with (first
                                    | (go_at_call 11; refine (iPlcSide_c _ _ _ _).mono ?_; rintro e w' ⟨rfl, t, rfl⟩) | (go_at_call 30; refine (iPclListOk_c _ _ _ _ _ _ _ (Re.of (Hid.out (by assumption)) zq0) (by omega)).mono ?_; rintro e w' ⟨rfl, t, rfl⟩) | (go_at_call 61; refine (in_c _ _ _ _).mono ?_; rintro e w' ⟨rfl, rfl⟩) | (go_at_call 16; refine (iPlcCell_c _ _ _).mono ?_; rintro e w' ⟨rfl, t, rfl⟩)
                                    | (
                                      with_reducible refine wp_region_mix (by kernel_rfl) (by decide +kernel) ?_
                                      repeat (first
                                        | (refine mix_pure rfl ?_; (first | go_big_quiet_skip | (go_big_quiet_want; go_big_quiet_op; go_big_quiet_on)); refine wpQuiet_nil ?_)
                                        | (refine mix_skip (by rfl) ?_; (try simp only [Act.put, List.setIfInBounds_toArray, List.set_cons_zero, List.set_cons_succ]))
                                        | (refine mix_mk rfl (by rfl) (fun K hK => ?_); (first | (go_simp; first | (go_at_call 11; refine (iPlcSide_c _ _ _ _).mono ?_; rintro e w' ⟨rfl, t, rfl⟩) | (go_at_call 30; refine (iPclListOk_c _ _ _ _ _ _ _ (Re.of (Hid.out (by assumption)) zq0) (by omega)).mono ?_; rintro e w' ⟨rfl, t, rfl⟩) | (go_at_call 61; refine (in_c _ _ _ _).mono ?_; rintro e w' ⟨rfl, rfl⟩) | (go_at_call 16; refine (iPlcCell_c _ _ _).mono ?_; rintro e w' ⟨rfl, t, rfl⟩) | skip)); (show K _ _); refine hK _ _ (show Ext _ _ from zq0) ?_; clear hK K; (try simp only [Act.put, List.setIfInBounds_toArray, List.set_cons_zero, List.set_cons_succ])))
                                      refine mix_nil ?_)
                                    | (
                                      with_reducible refine wp_region_ext (by kernel_rfl) (by kernel_rfl) ?_
                                      repeat (first | go_big_quiet_skip | (go_big_quiet_want; go_big_quiet_op; first | go_big_quiet_on | (apply Exists.intro; refine ⟨fun _ => ?_, ?_⟩; ((first | (go_at_call 11; first | exact quiet_call (iPlcSide_c _ _ _ _) | exact quiet_call2 (iPlcSide_c _ _ _ _)) | (go_at_call 30; first | exact quiet_call (iPclListOk_c _ _ _ _ _ _ _ (Re.of (Hid.out (by assumption)) zq0) (by omega)) | exact quiet_call2 (iPclListOk_c _ _ _ _ _ _ _ (Re.of (Hid.out (by assumption)) zq0) (by omega))) | (go_at_call 61; first | exact quiet_same (in_c _ _ _ _) | exact quiet_same2 (in_c _ _ _ _)) | (go_at_call 16; first | exact quiet_call (iPlcCell_c _ _ _) | exact quiet_call2 (iPlcCell_c _ _ _)))); (try rw [h1]); (try rw [h2]); (try rw [h3]); (try rw [h4]); (try rw [p1]); (try rw [p2]); (try rw [p3]); (try rw [p4]); (try rw [r1]); (try rw [r2]); (try rw [r3]); (try rw [r4]); (try rw [r5]); (try rw [r6]); (try rw [q3]); (try rw [q4]); (try rw [hp]); (try rw [hq]); go_big_quiet_on)))
                                      refine wpQuiet_nil ?_
                                      rintro _ ⟨tq, rfl⟩))
                                go_ret
                                exact ⟨ret_bool (by rw [E.out]), zq0⟩
                              | false =>
                                cases p5 : (ix != 0) with
                                | true =>
                                  have E := hid (cllOk_fail_side (m := m) (c := c) hlt2 (by rw [HSE.out]; simp only [bne, Bool.not_eq_true'] at p5; simp only [sideOk, P3.out, p5, if_true, Bool.false_and, Bool.and_false]))
                                  try go_wp2_with (first
                                      | (go_at_call 11; refine (iPlcSide_c _ _ _ _).mono ?_; rintro e w' ⟨rfl, t, rfl⟩) | (go_at_call 30; refine (iPclListOk_c _ _ _ _ _ _ _ (Re.of (Hid.out (by assumption)) zq0) (by omega)).mono ?_; rintro e w' ⟨rfl, t, rfl⟩) | (go_at_call 61; refine (in_c _ _ _ _).mono ?_; rintro e w' ⟨rfl, rfl⟩) | (go_at_call 16; refine (iPlcCell_c _ _ _).mono ?_; rintro e w' ⟨rfl, t, rfl⟩)
                                      | (
                                        with_reducible refine wp_region_mix (by kernel_rfl) (by decide +kernel) ?_
                                        repeat (first
                                          | (refine mix_pure rfl ?_; (first | go_big_quiet_skip | (go_big_quiet_want; go_big_quiet_op; go_big_quiet_on)); refine wpQuiet_nil ?_)
                                          | (refine mix_skip (by rfl) ?_; (try simp only [Act.put, List.setIfInBounds_toArray, List.set_cons_zero, List.set_cons_succ]))
                                          | (refine mix_mk rfl (by rfl) (fun K hK => ?_); (first | (go_simp; first | (go_at_call 11; refine (iPlcSide_c _ _ _ _).mono ?_; rintro e w' ⟨rfl, t, rfl⟩) | (go_at_call 30; refine (iPclListOk_c _ _ _ _ _ _ _ (Re.of (Hid.out (by assumption)) zq0) (by omega)).mono ?_; rintro e w' ⟨rfl, t, rfl⟩) | (go_at_call 61; refine (in_c _ _ _ _).mono ?_; rintro e w' ⟨rfl, rfl⟩) | (go_at_call 16; refine (iPlcCell_c _ _ _).mono ?_; rintro e w' ⟨rfl, t, rfl⟩) | skip)); (show K _ _); refine hK _ _ (show Ext _ _ from zq0) ?_; clear hK K; (try simp only [Act.put, List.setIfInBounds_toArray, List.set_cons_zero, List.set_cons_succ])))
                                        refine mix_nil ?_)
                                      | (
                                        with_reducible refine wp_region_ext (by kernel_rfl) (by kernel_rfl) ?_
                                        repeat (first | go_big_quiet_skip | (go_big_quiet_want; go_big_quiet_op; first | go_big_quiet_on | (apply Exists.intro; refine ⟨fun _ => ?_, ?_⟩; ((first | (go_at_call 11; first | exact quiet_call (iPlcSide_c _ _ _ _) | exact quiet_call2 (iPlcSide_c _ _ _ _)) | (go_at_call 30; first | exact quiet_call (iPclListOk_c _ _ _ _ _ _ _ (Re.of (Hid.out (by assumption)) zq0) (by omega)) | exact quiet_call2 (iPclListOk_c _ _ _ _ _ _ _ (Re.of (Hid.out (by assumption)) zq0) (by omega))) | (go_at_call 61; first | exact quiet_same (in_c _ _ _ _) | exact quiet_same2 (in_c _ _ _ _)) | (go_at_call 16; first | exact quiet_call (iPlcCell_c _ _ _) | exact quiet_call2 (iPlcCell_c _ _ _)))); (try rw [h1]); (try rw [h2]); (try rw [h3]); (try rw [h4]); (try rw [p1]); (try rw [p2]); (try rw [p3]); (try rw [p4]); (try rw [r1]); (try rw [r2]); (try rw [r3]); (try rw [r4]); (try rw [r5]); (try rw [r6]); (try rw [q3]); (try rw [q4]); (try rw [hp]); (try rw [hq]); go_big_quiet_on)))
                                        refine wpQuiet_nil ?_
                                        rintro _ ⟨tq, rfl⟩))
                                  go_ret
                                  exact ⟨ret_bool (by rw [E.out]), zq0⟩
                                | false =>
                                  have HNIL := hid (pcl_nil p1 (by simpa [bne] using p4))
                                  have HTRUE := hid (show sideOk m c.cell (k2 : Int) xs nx ix = true by simp only [bne, Bool.not_eq_false'] at p4 p5; simp only [sideOk, p1, p2, P3.out, p4, p5, if_true, Bool.and_self])
                                  try go_wp2_with (first
                                      | (go_at_call 11; refine (iPlcSide_c _ _ _ _).mono ?_; rintro e w' ⟨rfl, t, rfl⟩) | (go_at_call 30; refine (iPclListOk_c _ _ _ _ _ _ _ (Re.of (Hid.out (by assumption)) zq0) (by omega)).mono ?_; rintro e w' ⟨rfl, t, rfl⟩) | (go_at_call 61; refine (in_c _ _ _ _).mono ?_; rintro e w' ⟨rfl, rfl⟩)
                                      | (
                                        with_reducible refine wp_region_mix (by kernel_rfl) (by decide +kernel) ?_
                                        repeat (first
                                          | (refine mix_pure rfl ?_; (first | go_big_quiet_skip | (go_big_quiet_want; go_big_quiet_op; go_big_quiet_on)); refine wpQuiet_nil ?_)
                                          | (refine mix_skip (by rfl) ?_; (try simp only [Act.put, List.setIfInBounds_toArray, List.set_cons_zero, List.set_cons_succ]))
                                          | (refine mix_mk rfl (by rfl) (fun K hK => ?_); (first | (go_simp; first | (go_at_call 11; refine (iPlcSide_c _ _ _ _).mono ?_; rintro e w' ⟨rfl, t, rfl⟩) | (go_at_call 30; refine (iPclListOk_c _ _ _ _ _ _ _ (Re.of (Hid.out (by assumption)) zq0) (by omega)).mono ?_; rintro e w' ⟨rfl, t, rfl⟩) | (go_at_call 61; refine (in_c _ _ _ _).mono ?_; rintro e w' ⟨rfl, rfl⟩) | skip)); (show K _ _); refine hK _ _ (show Ext _ _ from zq0) ?_; clear hK K; (try simp only [Act.put, List.setIfInBounds_toArray, List.set_cons_zero, List.set_cons_succ])))
                                        refine mix_nil ?_)
                                      | (
                                        with_reducible refine wp_region_ext (by kernel_rfl) (by kernel_rfl) ?_
                                        repeat (first | go_big_quiet_skip | (go_big_quiet_want; go_big_quiet_op; first | go_big_quiet_on | (apply Exists.intro; refine ⟨fun _ => ?_, ?_⟩; ((first | (go_at_call 11; first | exact quiet_call (iPlcSide_c _ _ _ _) | exact quiet_call2 (iPlcSide_c _ _ _ _)) | (go_at_call 30; first | exact quiet_call (iPclListOk_c _ _ _ _ _ _ _ (Re.of (Hid.out (by assumption)) zq0) (by omega)) | exact quiet_call2 (iPclListOk_c _ _ _ _ _ _ _ (Re.of (Hid.out (by assumption)) zq0) (by omega))) | (go_at_call 61; first | exact quiet_same (in_c _ _ _ _) | exact quiet_same2 (in_c _ _ _ _)))); (try rw [h1]); (try rw [h2]); (try rw [h3]); (try rw [h4]); (try rw [p1]); (try rw [p2]); (try rw [p3]); (try rw [p4]); (try rw [r1]); (try rw [r2]); (try rw [r3]); (try rw [r4]); (try rw [r5]); (try rw [r6]); (try rw [q3]); (try rw [q4]); (try rw [hp]); (try rw [hq]); go_big_quiet_on)))
                                        refine wpQuiet_nil ?_
                                        rintro _ ⟨tq, rfl⟩))
                                  go_loopw [118] (fun i wr => ∃ j : Nat, j ≤ xs.length ∧ i = .int .i64 j ∧ allI (goesTo m (plcSide m c.cell (k2 : Int))) 0 (xs.take j) = true ∧ Ext ((w.alloc (Obj.cells #[.int .i64 m.c, .int .i64 m.w] 24)).alloc (Obj.cells #[.int .i64 c.cell, .slice a1 c.wk.length c1, .int .i64 c.ground, .slice (some ⟨b3, o3, none⟩) c.outs.length c3, .slice (some ⟨b4, o4, none⟩) c.next.length c4, .slice (some ⟨b5, o5, none⟩) c.ins.length c5] 64)) wr) (fun i _ => xs.length - (intOf i).toNat)
                                  case atStart => exact ⟨0, Nat.zero_le _, rfl, rfl, zq0⟩
                                  case round =>
                                    obtain ⟨j, hj, rfl, hal, t3, rfl⟩ := hrel
                                    have HA := hid hal
                                    clear hal
                                    by_cases hlt3 : j < xs.length
                                    · exfalso
                                      rw [HNIL.out] at hlt3
                                      exact absurd hlt3 (Nat.not_lt_zero _)
                                    · have HALL := hid (allI_all (p := goesTo m (plcSide m c.cell (k2 : Int))) (xs := xs) (k := j) (by omega) HA.out)
                                      have HS := hid (show sideAt m c k2 = true by rw [HSE.out]; exact HTRUE.out)
                                      try go_wp2_with (first
                                          | fail
                                          | (
                                            with_reducible refine wp_region_mix (by kernel_rfl) (by decide +kernel) ?_
                                            repeat (first
                                              | (refine mix_pure rfl ?_; (first | go_big_quiet_skip | (go_big_quiet_want; go_big_quiet_op; go_big_quiet_on)); refine wpQuiet_nil ?_)
                                              | (refine mix_skip (by rfl) ?_; (try simp only [Act.put, List.setIfInBounds_toArray, List.set_cons_zero, List.set_cons_succ]))
                                              | (refine mix_mk rfl (by rfl) (fun K hK => ?_); (first | (go_simp; first | skip)); (show K _ _); refine hK _ _ (show Ext _ _ from zq0) ?_; clear hK K; (try simp only [Act.put, List.setIfInBounds_toArray, List.set_cons_zero, List.set_cons_succ])))
                                            refine mix_nil ?_)
                                          | (
                                            with_reducible refine wp_region_ext (by kernel_rfl) (by kernel_rfl) ?_
                                            repeat (first | go_big_quiet_skip | (go_big_quiet_want; go_big_quiet_op; first | go_big_quiet_on | (apply Exists.intro; refine ⟨fun _ => ?_, ?_⟩; (fail); (try rw [h1]); (try rw [h2]); (try rw [h3]); (try rw [h4]); (try rw [p1]); (try rw [p2]); (try rw [p3]); (try rw [p4]); (try rw [r1]); (try rw [r2]); (try rw [r3]); (try rw [r4]); (try rw [r5]); (try rw [r6]); (try rw [q3]); (try rw [q4]); (try rw [hp]); (try rw [hq]); go_big_quiet_on)))
                                            refine wpQuiet_nil ?_
                                            rintro _ ⟨tq, rfl⟩))
                                      go_roundw
                                      case rel => exact ⟨k2 + 1, by omega, by go_num, fun j hj => by
                                        rcases Nat.lt_or_ge j k2 with h9 | h9
                                        · exact HSD.out j h9
                                        · obtain rfl : j = k2 := by omega
                                          exact HS.out, zq0⟩
                                      case measure => simp [intOf]; omega
                            | false =>
                              have P3 := hid (show ¬ plcSide m c.cell (k2 : Int) = -1 by simpa using p3)
                              try go_wp2_with (first
                                  | (go_at_call 11; refine (iPlcSide_c _ _ _ _).mono ?_; rintro e w' ⟨rfl, t, rfl⟩) | (go_at_call 30; refine (iPclListOk_c _ _ _ _ _ _ _ (Re.of (Hid.out (by assumption)) zq0) (by omega)).mono ?_; rintro e w' ⟨rfl, t, rfl⟩) | (go_at_call 61; refine (in_c _ _ _ _).mono ?_; rintro e w' ⟨rfl, rfl⟩)
                                  | (
                                    with_reducible refine wp_region_mix (by kernel_rfl) (by decide +kernel) ?_
                                    repeat (first
                                      | (refine mix_pure rfl ?_; (first | go_big_quiet_skip | (go_big_quiet_want; go_big_quiet_op; go_big_quiet_on)); refine wpQuiet_nil ?_)
                                      | (refine mix_skip (by rfl) ?_; (try simp only [Act.put, List.setIfInBounds_toArray, List.set_cons_zero, List.set_cons_succ]))
                                      | (refine mix_mk rfl (by rfl) (fun K hK => ?_); (first | (go_simp; first | (go_at_call 11; refine (iPlcSide_c _ _ _ _).mono ?_; rintro e w' ⟨rfl, t, rfl⟩) | (go_at_call 30; refine (iPclListOk_c _ _ _ _ _ _ _ (Re.of (Hid.out (by assumption)) zq0) (by omega)).mono ?_; rintro e w' ⟨rfl, t, rfl⟩) | (go_at_call 61; refine (in_c _ _ _ _).mono ?_; rintro e w' ⟨rfl, rfl⟩) | skip)); (show K _ _); refine hK _ _ (show Ext _ _ from zq0) ?_; clear hK K; (try simp only [Act.put, List.setIfInBounds_toArray, List.set_cons_zero, List.set_cons_succ])))
                                    refine mix_nil ?_)
                                  | (
                                    with_reducible refine wp_region_ext (by kernel_rfl) (by kernel_rfl) ?_
                                    repeat (first | go_big_quiet_skip | (go_big_quiet_want; go_big_quiet_op; first | go_big_quiet_on | (apply Exists.intro; refine ⟨fun _ => ?_, ?_⟩; ((first | (go_at_call 11; first | exact quiet_call (iPlcSide_c _ _ _ _) | exact quiet_call2 (iPlcSide_c _ _ _ _)) | (go_at_call 30; first | exact quiet_call (iPclListOk_c _ _ _ _ _ _ _ (Re.of (Hid.out (by assumption)) zq0) (by omega)) | exact quiet_call2 (iPclListOk_c _ _ _ _ _ _ _ (Re.of (Hid.out (by assumption)) zq0) (by omega))) | (go_at_call 61; first | exact quiet_same (in_c _ _ _ _) | exact quiet_same2 (in_c _ _ _ _)))); (try rw [h1]); (try rw [h2]); (try rw [h3]); (try rw [h4]); (try rw [p1]); (try rw [p2]); (try rw [p3]); (try rw [p4]); (try rw [r1]); (try rw [r2]); (try rw [r3]); (try rw [r4]); (try rw [r5]); (try rw [r6]); (try rw [q3]); (try rw [q4]); (try rw [hp]); (try rw [hq]); go_big_quiet_on)))
                                    refine wpQuiet_nil ?_
                                    rintro _ ⟨tq, rfl⟩))
                              go_loopw [118] (fun i wr => ∃ j : Nat, j ≤ xs.length ∧ i = .int .i64 j ∧ allI (goesTo m (plcSide m c.cell (k2 : Int))) 0 (xs.take j) = true ∧ Ext ((w.alloc (Obj.cells #[.int .i64 m.c, .int .i64 m.w] 24)).alloc (Obj.cells #[.int .i64 c.cell, .slice a1 c.wk.length c1, .int .i64 c.ground, .slice (some ⟨b3, o3, none⟩) c.outs.length c3, .slice (some ⟨b4, o4, none⟩) c.next.length c4, .slice (some ⟨b5, o5, none⟩) c.ins.length c5] 64)) wr) (fun i _ => xs.length - (intOf i).toNat)
                              case atStart => exact ⟨0, Nat.zero_le _, rfl, rfl, zq0⟩
                              case round =>
                                obtain ⟨j, hj, rfl, hal, t3, rfl⟩ := hrel
                                have HA := hid hal
                                clear hal
                                by_cases hlt3 : j < xs.length
                                · obtain ⟨x, b, o, hxk, rfl, hb, g0, g1, g2, g3, g4, g5, g6, g7⟩ := at_Pcl HR3.out hlt3
                                  have HK := hid hxk
                                  have hb1 : b ≤ w.heap.size := Nat.le_of_lt hb
                                  clear hxk
                                  cases q1 : (x.kind == 1) with
                                  | false =>
                                    have HB := hid (allI_step (p := goesTo m (plcSide m c.cell (k2 : Int))) HK.out HA.out (by simp [goesTo, q1]))
                                    try go_wp2_with (first
                                        | (go_at_call 16; refine (iPlcCell_c _ _ _).mono ?_; rintro e w' ⟨rfl, t, rfl⟩)
                                        | (
                                          with_reducible refine wp_region_mix (by kernel_rfl) (by decide +kernel) ?_
                                          repeat (first
                                            | (refine mix_pure rfl ?_; (first | go_big_quiet_skip | (go_big_quiet_want; go_big_quiet_op; go_big_quiet_on)); refine wpQuiet_nil ?_)
                                            | (refine mix_skip (by rfl) ?_; (try simp only [Act.put, List.setIfInBounds_toArray, List.set_cons_zero, List.set_cons_succ]))
                                            | (refine mix_mk rfl (by rfl) (fun K hK => ?_); (first | (go_simp; first | (go_at_call 16; refine (iPlcCell_c _ _ _).mono ?_; rintro e w' ⟨rfl, t, rfl⟩) | skip)); (show K _ _); refine hK _ _ (show Ext _ _ from zq0) ?_; clear hK K; (try simp only [Act.put, List.setIfInBounds_toArray, List.set_cons_zero, List.set_cons_succ])))
                                          refine mix_nil ?_)
                                        | (
                                          with_reducible refine wp_region_ext (by kernel_rfl) (by kernel_rfl) ?_
                                          repeat (first | go_big_quiet_skip | (go_big_quiet_want; go_big_quiet_op; first | go_big_quiet_on | (apply Exists.intro; refine ⟨fun _ => ?_, ?_⟩; ((first | (go_at_call 16; first | exact quiet_call (iPlcCell_c _ _ _) | exact quiet_call2 (iPlcCell_c _ _ _)))); (try rw [h1]); (try rw [h2]); (try rw [h3]); (try rw [h4]); (try rw [p1]); (try rw [p2]); (try rw [p3]); (try rw [p4]); (try rw [r1]); (try rw [r2]); (try rw [r3]); (try rw [r4]); (try rw [r5]); (try rw [r6]); (try rw [q3]); (try rw [q4]); (try rw [hp]); (try rw [hq]); go_big_quiet_on)))
                                          refine wpQuiet_nil ?_
                                          rintro _ ⟨tq, rfl⟩))
                                    go_roundw
                                    case rel => exact ⟨j + 1, by omega, by go_num, HB.out, zq0⟩
                                    case measure => simp [intOf]; omega
                                  | true =>
                                    cases q2 : (plcCell m x.wk.at_ != plcSide m c.cell (k2 : Int)) with
                                    | true =>
                                      have E := hid (cllOk_fail_side (m := m) (c := c) hlt2 (by
                                        have h9 := allI_fail (p := goesTo m (plcSide m c.cell (k2 : Int))) HK.out (by simp only [bne, Bool.not_eq_true'] at q2; simp only [goesTo, q1, q2, Bool.not_true, Bool.or_self])
                                        rw [HSE.out]
                                        simp only [sideOk, h9, P3.out, if_false, Bool.and_false]))
                                      try go_wp2_with (first
                                          | (go_at_call 16; refine (iPlcCell_c _ _ _).mono ?_; rintro e w' ⟨rfl, t, rfl⟩)
                                          | (
                                            with_reducible refine wp_region_mix (by kernel_rfl) (by decide +kernel) ?_
                                            repeat (first
                                              | (refine mix_pure rfl ?_; (first | go_big_quiet_skip | (go_big_quiet_want; go_big_quiet_op; go_big_quiet_on)); refine wpQuiet_nil ?_)
                                              | (refine mix_skip (by rfl) ?_; (try simp only [Act.put, List.setIfInBounds_toArray, List.set_cons_zero, List.set_cons_succ]))
                                              | (refine mix_mk rfl (by rfl) (fun K hK => ?_); (first | (go_simp; first | (go_at_call 16; refine (iPlcCell_c _ _ _).mono ?_; rintro e w' ⟨rfl, t, rfl⟩) | skip)); (show K _ _); refine hK _ _ (show Ext _ _ from zq0) ?_; clear hK K; (try simp only [Act.put, List.setIfInBounds_toArray, List.set_cons_zero, List.set_cons_succ])))
                                            refine mix_nil ?_)
                                          | (
                                            with_reducible refine wp_region_ext (by kernel_rfl) (by kernel_rfl) ?_
                                            repeat (first | go_big_quiet_skip | (go_big_quiet_want; go_big_quiet_op; first | go_big_quiet_on | (apply Exists.intro; refine ⟨fun _ => ?_, ?_⟩; ((first | (go_at_call 16; first | exact quiet_call (iPlcCell_c _ _ _) | exact quiet_call2 (iPlcCell_c _ _ _)))); (try rw [h1]); (try rw [h2]); (try rw [h3]); (try rw [h4]); (try rw [p1]); (try rw [p2]); (try rw [p3]); (try rw [p4]); (try rw [r1]); (try rw [r2]); (try rw [r3]); (try rw [r4]); (try rw [r5]); (try rw [r6]); (try rw [q3]); (try rw [q4]); (try rw [hp]); (try rw [hq]); go_big_quiet_on)))
                                            refine wpQuiet_nil ?_
                                            rintro _ ⟨tq, rfl⟩))
                                      go_ret
                                      exact ⟨ret_bool (by rw [E.out]), zq0⟩
                                    | false =>
                                      have HB := hid (allI_step (p := goesTo m (plcSide m c.cell (k2 : Int))) HK.out HA.out (by simp only [bne, Bool.not_eq_false'] at q2; simp only [goesTo, q1, q2, Bool.or_true]))
                                      try go_wp2_with (first
                                          | (go_at_call 16; refine (iPlcCell_c _ _ _).mono ?_; rintro e w' ⟨rfl, t, rfl⟩)
                                          | (
                                            with_reducible refine wp_region_mix (by kernel_rfl) (by decide +kernel) ?_
                                            repeat (first
                                              | (refine mix_pure rfl ?_; (first | go_big_quiet_skip | (go_big_quiet_want; go_big_quiet_op; go_big_quiet_on)); refine wpQuiet_nil ?_)
                                              | (refine mix_skip (by rfl) ?_; (try simp only [Act.put, List.setIfInBounds_toArray, List.set_cons_zero, List.set_cons_succ]))
                                              | (refine mix_mk rfl (by rfl) (fun K hK => ?_); (first | (go_simp; first | (go_at_call 16; refine (iPlcCell_c _ _ _).mono ?_; rintro e w' ⟨rfl, t, rfl⟩) | skip)); (show K _ _); refine hK _ _ (show Ext _ _ from zq0) ?_; clear hK K; (try simp only [Act.put, List.setIfInBounds_toArray, List.set_cons_zero, List.set_cons_succ])))
                                            refine mix_nil ?_)
                                          | (
                                            with_reducible refine wp_region_ext (by kernel_rfl) (by kernel_rfl) ?_
                                            repeat (first | go_big_quiet_skip | (go_big_quiet_want; go_big_quiet_op; first | go_big_quiet_on | (apply Exists.intro; refine ⟨fun _ => ?_, ?_⟩; ((first | (go_at_call 16; first | exact quiet_call (iPlcCell_c _ _ _) | exact quiet_call2 (iPlcCell_c _ _ _)))); (try rw [h1]); (try rw [h2]); (try rw [h3]); (try rw [h4]); (try rw [p1]); (try rw [p2]); (try rw [p3]); (try rw [p4]); (try rw [r1]); (try rw [r2]); (try rw [r3]); (try rw [r4]); (try rw [r5]); (try rw [r6]); (try rw [q3]); (try rw [q4]); (try rw [hp]); (try rw [hq]); go_big_quiet_on)))
                                            refine wpQuiet_nil ?_
                                            rintro _ ⟨tq, rfl⟩))
                                      go_roundw
                                      case rel => exact ⟨j + 1, by omega, by go_num, HB.out, zq0⟩
                                      case measure => simp [intOf]; omega
                                · have HALL := hid (allI_all (p := goesTo m (plcSide m c.cell (k2 : Int))) (xs := xs) (k := j) (by omega) HA.out)
                                  have HS := hid (show sideAt m c k2 = true by rw [HSE.out]; simp only [sideOk, p1, p2, P3.out, HALL.out, if_false, Bool.and_self])
                                  try go_wp2_with (first
                                      | fail
                                      | (
                                        with_reducible refine wp_region_mix (by kernel_rfl) (by decide +kernel) ?_
                                        repeat (first
                                          | (refine mix_pure rfl ?_; (first | go_big_quiet_skip | (go_big_quiet_want; go_big_quiet_op; go_big_quiet_on)); refine wpQuiet_nil ?_)
                                          | (refine mix_skip (by rfl) ?_; (try simp only [Act.put, List.setIfInBounds_toArray, List.set_cons_zero, List.set_cons_succ]))
                                          | (refine mix_mk rfl (by rfl) (fun K hK => ?_); (first | (go_simp; first | skip)); (show K _ _); refine hK _ _ (show Ext _ _ from zq0) ?_; clear hK K; (try simp only [Act.put, List.setIfInBounds_toArray, List.set_cons_zero, List.set_cons_succ])))
                                        refine mix_nil ?_)
                                      | (
                                        with_reducible refine wp_region_ext (by kernel_rfl) (by kernel_rfl) ?_
                                        repeat (first | go_big_quiet_skip | (go_big_quiet_want; go_big_quiet_op; first | go_big_quiet_on | (apply Exists.intro; refine ⟨fun _ => ?_, ?_⟩; (fail); (try rw [h1]); (try rw [h2]); (try rw [h3]); (try rw [h4]); (try rw [p1]); (try rw [p2]); (try rw [p3]); (try rw [p4]); (try rw [r1]); (try rw [r2]); (try rw [r3]); (try rw [r4]); (try rw [r5]); (try rw [r6]); (try rw [q3]); (try rw [q4]); (try rw [hp]); (try rw [hq]); go_big_quiet_on)))
                                        refine wpQuiet_nil ?_
                                        rintro _ ⟨tq, rfl⟩))
                                  go_roundw
                                  case rel => exact ⟨k2 + 1, by omega, by go_num, fun j hj => by
                                    rcases Nat.lt_or_ge j k2 with h9 | h9
                                    · exact HSD.out j h9
                                    · obtain rfl : j = k2 := by omega
                                      exact HS.out, zq0⟩
                                  case measure => simp [intOf]; omega
                      · have E := hid (show cllOk m c = true from cllOk_true HHD.out HW.out (fun j hj => HSD.out j (by omega)))
                        try go_wp2_with (first
                            | fail
                            | (
                              with_reducible refine wp_region_mix (by kernel_rfl) (by decide +kernel) ?_
                              repeat (first
                                | (refine mix_pure rfl ?_; (first | go_big_quiet_skip | (go_big_quiet_want; go_big_quiet_op; go_big_quiet_on)); refine wpQuiet_nil ?_)
                                | (refine mix_skip (by rfl) ?_; (try simp only [Act.put, List.setIfInBounds_toArray, List.set_cons_zero, List.set_cons_succ]))
                                | (refine mix_mk rfl (by rfl) (fun K hK => ?_); (first | (go_simp; first | skip)); (show K _ _); refine hK _ _ (show Ext _ _ from zq0) ?_; clear hK K; (try simp only [Act.put, List.setIfInBounds_toArray, List.set_cons_zero, List.set_cons_succ])))
                              refine mix_nil ?_)
                            | (
                              with_reducible refine wp_region_ext (by kernel_rfl) (by kernel_rfl) ?_
                              repeat (first | go_big_quiet_skip | (go_big_quiet_want; go_big_quiet_op; first | go_big_quiet_on | (apply Exists.intro; refine ⟨fun _ => ?_, ?_⟩; (fail); (try rw [h1]); (try rw [h2]); (try rw [h3]); (try rw [h4]); (try rw [p1]); (try rw [p2]); (try rw [p3]); (try rw [p4]); (try rw [r1]); (try rw [r2]); (try rw [r3]); (try rw [r4]); (try rw [r5]); (try rw [r6]); (try rw [q3]); (try rw [q4]); (try rw [hp]); (try rw [hq]); go_big_quiet_on)))
                              refine wpQuiet_nil ?_
                              rintro _ ⟨tq, rfl⟩))
                        go_ret
                        exact ⟨ret_bool (by rw [E.out]), zq0⟩
end Go.Proofs.Ytbbpipbemhggdaa

namespace Go.Proofs.Ytbbpipbemhggdaa
open Go.RowKit
set_option linter.unusedSimpArgs false
set_option linter.unusedVariables false

theorem fin_blk {X X' w' : World} {t : Xt} {b : Nat} (hb : X.heap.size ≤ b) (hlt : b < (ext X t).heap.size) (hE : Ext (ext X' t) w') (hs : X'.heap.size = X.heap.size) : w'.heap[b]? = (ext X t).heap[b]? := by
  rw [hE.block (by rw [ext_size] at hlt ⊢; omega), ext_heap, ext_heap, Array.getElem?_append, Array.getElem?_append, if_neg (by omega), if_neg (by omega), hs]
section
variable {α : Type} {cells : α → List Value} {k : Nat} {T TS : TypeId}
/-- Blocks made before were stored into. -/
theorem RowX.fin {X X' w' : World} {t : Xt} {v : Value} {xs : List α} {B : List Nat} (h : RowX (ext X t) T k cells v xs B) (hB : ∀ b ∈ B, X.heap.size ≤ b) (hE : Ext (ext X' t) w') (hs : X'.heap.size = X.heap.size) : RowX w' T k cells v xs B :=
  h.same fun b hb => fin_blk (hB b hb) (h.lt b hb) hE hs
theorem RowSS.fin {X X' w' : World} {t : Xt} {v : Value} {xss : List (List α)} {B : List Nat} (h : RowSS (ext X t) TS T k cells v xss B) (hB : ∀ b ∈ B, X.heap.size ≤ b) (hE : Ext (ext X' t) w') (hs : X'.heap.size = X.heap.size) : RowSS w' TS T k cells v xss B :=
  h.same fun b hb => fin_blk (hB b hb) (h.lt b hb) hE hs
end
end Go.Proofs.Ytbbpipbemhggdaa

namespace Go.Proofs.Ytbbpipbemhggdaa
open Go.RowKit
set_option linter.unusedSimpArgs false
set_option linter.unusedVariables false

theorem chg_six {Y X : World} {b : Nat} {v0 v1 v2 v3 v4 v5 : Value} (h : X = (((((Y.setCell ⟨b, 0, none⟩ v0).setCell ⟨b, 1, none⟩ v1).setCell ⟨b, 2, none⟩ v2).setCell ⟨b, 3, none⟩ v3).setCell ⟨b, 4, none⟩ v4).setCell ⟨b, 5, none⟩ v5) : Chg [b] Y X := by
  rw [h]; exact (Chg.set (Chg.set (Chg.set (Chg.set (Chg.set (Chg.set (Chg.refl _ _) (by simp) _) (by simp) _) (by simp) _) (by simp) _) (by simp) _) (by simp) _)
theorem rowX_R {α : Type} {w : World} {T : TypeId} {k lo : Nat} {cells : α → List Value} {v : Value} {xs : List α} {B : List Nat} (h : RowX w T k cells v xs B) (hB : ∀ b ∈ B, lo ≤ b) (hlo : lo ≤ w.heap.size) : ∃ R, (∀ b ∈ B, b = R) ∧ lo ≤ R ∧ R ≠ w.heap.size := by
  have hl := h.lt
  rcases h with ⟨_, rfl, _⟩ | ⟨g, cap, cur, _, rfl, _⟩
  · exact ⟨w.heap.size + 1, by simp, by omega, by omega⟩
  · exact ⟨g, by simp, hB g (by simp), by have := hl g (by simp); omega⟩
end Go.Proofs.Ytbbpipbemhggdaa

namespace Go.Proofs.Ytbbpipbemhggdaa
open Go.RowKit
set_option linter.unusedSimpArgs false
set_option linter.unusedVariables false

def cllZ : Cll := ⟨0, [], 0, [], [], []⟩
theorem ownL_nil_cll (w : World) : Own w sCll (cllCells cllZ ⟨none, 0, none, 0, none, 0, none, 0⟩) (cllDat cllZ) [] := by
  have nl : ∀ e : Sch, Own w (.sl e) [.slice none 0 0] (.l []) [] := fun e => by
    unfold Own; exact ⟨[], rfl, Nat.zero_le _, .inl ⟨rfl, rfl, none, 0, rfl⟩⟩
  have i : Own w .int [.int .i64 0] (.i 0) [] := by unfold Own; exact ⟨⟨_, rfl, rfl⟩, rfl⟩
  unfold sCll cllDat
  refine own_st_mk ?_
  unfold OwnL; refine ⟨[_], _, _, _, [], [], rfl, rfl, rfl, i, ?_⟩
  unfold OwnL; refine ⟨[_], _, _, _, [], [], rfl, rfl, rfl, nl _, ?_⟩
  unfold OwnL; refine ⟨[_], _, _, _, [], [], rfl, rfl, rfl, i, ?_⟩
  unfold OwnL; refine ⟨[_], _, _, _, [], [], rfl, rfl, rfl, nl _, ?_⟩
  unfold OwnL; refine ⟨[_], _, _, _, [], [], rfl, rfl, rfl, nl _, ?_⟩
  unfold OwnL; refine ⟨[_], _, _, _, [], [], rfl, rfl, rfl, nl _, ?_⟩
  unfold OwnL; exact ⟨rfl, rfl, rfl⟩
theorem CX.re {w : World} {c : Cll} {h : CllH} {B1 B3 B4 B5 : List Nat} (x : CX w c h B1 B3 B4 B5) : ReC w c h := (x.own (lo := 0) (fun _ _ => Nat.zero_le _)).cll
theorem CX.fin {X X' w' : World} {t : Xt} {c : Cll} {h : CllH} {B1 B3 B4 B5 : List Nat} (x : CX (ext X t) c h B1 B3 B4 B5) (hB : ∀ b ∈ B1 ++ (B3 ++ (B4 ++ B5)), X.heap.size ≤ b) (hE : Ext (ext X' t) w') (hs : X'.heap.size = X.heap.size) : CX w' c h B1 B3 B4 B5 :=
  x.same fun b hb => fin_blk (hB b hb) (x.lt b hb) hE hs
end Go.Proofs.Ytbbpipbemhggdaa

namespace Go.Proofs.Ytbbpipbemhggdaa
open Go.RowKit
set_option linter.unusedSimpArgs false
set_option linter.unusedVariables false

def homeIn (m : Mp) (cell : Int) (x : Wlk) : Bool := decide (plcCell m x.at_ = cell)
def newOk (m : Mp) (cell : Int) (xs : List Wlk) : Bool := (wlkAll m xs && plcOk m) && inB cell 0 (m.c - 1)
def cllNew (m : Mp) (cell : Int) (xs : List Wlk) : Cll := bif newOk m cell xs then ⟨cell, xs.filter (homeIn m cell), 0, [[], []], [0, 0], [0, 0]⟩ else cllZ
theorem push_new {h : Array Obj} {o o' : Obj} {b : Nat} (hb : b = h.size) (ho : o = o') : (h.push o)[b]? = some o' := by subst hb ho; simp
theorem row_two {α : Type} {cells : α → List Value} {k : Nat} {T : TypeId} {w2 : World} {v : Value} {xs : List α} {R2 B : List Nat} {s lo : Nat} (hr2 : RowX w2 T k cells v xs R2) (hR2 : R2 = B ∨ R2 = [s]) (hB : ∀ b ∈ B, lo ≤ b) (hs : lo ≤ s) : ∃ B', RowX w2 T k cells v xs B' ∧ ∀ b ∈ B', lo ≤ b := by
  refine ⟨R2, hr2, fun b hb => ?_⟩
  rcases hR2 with rfl | rfl
  · exact hB b hb
  · rw [List.mem_singleton.1 hb]; exact hs
theorem rowx_two {X : World} {g : Nat} (h : X.heap[g]? = some (.cells #[.int .i64 0, .int .i64 0] 3 (0, 0))) : RowX X 3 1 icells (.slice (some ⟨g, 0, none⟩) 2 2) [0, 0] [g] := by
  refine .inr ⟨g, 2, _, rfl, rfl, h, Nat.le_refl _, by decide, rfl, ?_⟩
  intro i x hi hx j u hu
  match i, hi with
  | 0, _ =>
    obtain rfl := Option.some.inj hx
    have hj : j = 0 := by have := (List.getElem?_eq_some_iff.1 hu).1; simp [icells] at this; exact this
    subst hj; exact hu
  | 1, _ =>
    obtain rfl := Option.some.inj hx
    have hj : j = 0 := by have := (List.getElem?_eq_some_iff.1 hu).1; simp [icells] at this; exact this
    subst hj; exact hu
theorem rowss_two {X : World} {g : Nat} {a1 a2 : Option Addr} (h1 : a1 = none ∨ ∃ g, a1 = some (⟨g, 0, none⟩ : Addr)) (h2 : a2 = none ∨ ∃ g, a2 = some (⟨g, 0, none⟩ : Addr)) (h : X.heap[g]? = some (.cells #[.slice a1 0 0, .slice a2 0 0] 44 (0, 0))) : RowSS X 44 91 8 Pcl.cells (.slice (some ⟨g, 0, none⟩) 2 2) [[], []] [g] := by
  refine ⟨[⟨a1, 0, 0⟩, ⟨a2, 0, 0⟩], [g], [[], []], .inr ⟨g, 2, _, rfl, rfl, h, Nat.le_refl _, by decide, rfl, ?_⟩, rfl, rfl, rfl, by simp, ?_⟩
  · intro i x hi hx j u hu
    match i, hi with
    | 0, _ =>
      obtain rfl := Option.some.inj hx
      have hj : j = 0 := by have := (List.getElem?_eq_some_iff.1 hu).1; simp [SlV.cells] at this; exact this
      subst hj; exact hu
    | 1, _ =>
      obtain rfl := Option.some.inj hx
      have hj : j = 0 := by have := (List.getElem?_eq_some_iff.1 hu).1; simp [SlV.cells] at this; exact this
      subst hj; exact hu
  · intro i e xs he hx
    match i with
    | 0 =>
      obtain rfl := Option.some.inj he
      obtain rfl := Option.some.inj hx
      exact ⟨[], rfl, .inl ⟨rfl, rfl, a1, rfl, h1⟩⟩
    | 1 =>
      obtain rfl := Option.some.inj he
      obtain rfl := Option.some.inj hx
      exact ⟨[], rfl, .inl ⟨rfl, rfl, a2, rfl, h2⟩⟩
    | i + 2 => simp at he
theorem cll_new_cx {X wr : World} {T g3 g4 g5 lo : Nat} {v : Value} {ws : List Wlk} {B1 B3 B4 B5 : List Nat} {cell : Int}
    (x1 : RowX wr 52 5 Wlk.cells v ws B1) (r1 : ∀ b ∈ B1, X.heap.size ≤ b) (hc : Chg [T] X wr) (hlo : lo ≤ X.heap.size)
    (x3 : RowSS X 44 91 8 Pcl.cells (.slice (some ⟨g3, 0, none⟩) 2 2) [[], []] B3) (x4 : RowX X 3 1 icells (.slice (some ⟨g4, 0, none⟩) 2 2) [0, 0] B4) (x5 : RowX X 3 1 icells (.slice (some ⟨g5, 0, none⟩) 2 2) [0, 0] B5)
    (nd : (B3 ++ (B4 ++ B5)).Nodup) (hT : T ∉ B3 ++ (B4 ++ B5)) (hB : ∀ b ∈ B3 ++ (B4 ++ B5), lo ≤ b) :
    ∃ p1 q1, v = .slice p1 ws.length q1 ∧ CX wr ⟨cell, ws, 0, [[], []], [0, 0], [0, 0]⟩ ⟨p1, q1, some ⟨g3, 0, none⟩, 2, some ⟨g4, 0, none⟩, 2, some ⟨g5, 0, none⟩, 2⟩ B1 B3 B4 B5 ∧ ∀ b ∈ B1 ++ (B3 ++ (B4 ++ B5)), lo ≤ b := by
  obtain ⟨p1, q1, rfl⟩ := x1.slice
  have n : ∀ {b : Nat}, b ∈ B3 ++ (B4 ++ B5) → b ∉ [T] := fun hb hm => hT (by
    obtain rfl := List.mem_singleton.1 hm
    exact hb)
  refine ⟨p1, q1, rfl, ⟨x1, x3.chg hc fun b hb => n (by simp [hb]), x4.chg hc fun b hb => n (by simp [hb]), x5.chg hc fun b hb => n (by simp [hb]), ?_⟩, fun b hb => ?_⟩
  · refine List.nodup_append.2 ⟨x1.nodup, nd, fun a ha b hb e => ?_⟩
    have h1 := r1 a ha
    have h2 : b < X.heap.size := by
      rcases List.mem_append.1 hb with hb | hb
      · exact x3.lt b hb
      · rcases List.mem_append.1 hb with hb | hb
        · exact x4.lt b hb
        · exact x5.lt b hb
    omega
  · rcases List.mem_append.1 hb with hb | hb
    · have := r1 b hb; omega
    · exact hB b hb


set_option maxRecDepth 100000 in
set_option maxHeartbeats 8000000 in
theorem sCllNew_c (m : Mp) (cell : Int) (xs : List Wlk) (a : Option Addr) (n c : Nat) (w : World) (hx : Re w (.sl sWlk) [.slice a n c] (.l (xs.map Wlk.dat))) (hn : n ≤ 1048576) :
    Calls Try.prog 44 #[.agg #[.int .i64 m.c, .int .i64 m.w], .int .i64 cell, .slice a n c] w (MadeC w (cllNew m cell xs)) := by
  have HX := hid hx
  clear hx
  cases p2 : plcOk m with
  | false =>
    have p1 := True.intro
    have p3 := True.intro
    have E1 := hid (show cllNew m cell xs = cllZ by simp [cllNew, newOk, p1, p2, p3])
    go_enter Try.func44, Try.ntmps44
    try go_wp2_with (first
        | (go_at_call 14; refine (sPlcOk_c _ _).mono ?_; rintro e w' ⟨rfl, t, rfl⟩) | (go_at_call 60; refine (l1In_c _ _ _ _).mono ?_; rintro e w' ⟨rfl, rfl⟩) | (go_at_call 45; refine (sWlkListOk_c _ _ _ _ _ _ (Re.of (Hid.out (by assumption)) zq0) (by omega)).mono ?_; rintro e w' ⟨rfl, t, rfl⟩)
        | (
          with_reducible refine wp_region_mix (by kernel_rfl) (by decide +kernel) ?_
          repeat (first
            | (refine mix_pure rfl ?_; (first | go_big_quiet_skip | (go_big_quiet_want; go_big_quiet_op; go_big_quiet_on)); refine wpQuiet_nil ?_)
            | (refine mix_skip (by rfl) ?_; (try simp only [Act.put, List.setIfInBounds_toArray, List.set_cons_zero, List.set_cons_succ]))
            | (refine mix_mk rfl (by rfl) (fun K hK => ?_); (first | (go_simp; first | (go_at_call 14; refine (sPlcOk_c _ _).mono ?_; rintro e w' ⟨rfl, t, rfl⟩) | (go_at_call 60; refine (l1In_c _ _ _ _).mono ?_; rintro e w' ⟨rfl, rfl⟩) | (go_at_call 45; refine (sWlkListOk_c _ _ _ _ _ _ (Re.of (Hid.out (by assumption)) zq0) (by omega)).mono ?_; rintro e w' ⟨rfl, t, rfl⟩) | skip)); (show K _ _); refine hK _ _ (show Ext _ _ from zq0) ?_; clear hK K; (try simp only [Act.put, List.setIfInBounds_toArray, List.set_cons_zero, List.set_cons_succ])))
          refine mix_nil ?_)
        | (
          with_reducible refine wp_region_ext (by kernel_rfl) (by kernel_rfl) ?_
          repeat (first | go_big_quiet_skip | (go_big_quiet_want; go_big_quiet_op; first | go_big_quiet_on | (apply Exists.intro; refine ⟨fun _ => ?_, ?_⟩; ((first | (go_at_call 14; first | exact quiet_call (sPlcOk_c _ _) | exact quiet_call2 (sPlcOk_c _ _)) | (go_at_call 60; first | exact quiet_same (l1In_c _ _ _ _) | exact quiet_same2 (l1In_c _ _ _ _)) | (go_at_call 45; first | exact quiet_call (sWlkListOk_c _ _ _ _ _ _ (Re.of (Hid.out (by assumption)) zq0) (by omega)) | exact quiet_call2 (sWlkListOk_c _ _ _ _ _ _ (Re.of (Hid.out (by assumption)) zq0) (by omega))))); (try rw [h1]); (try rw [h2]); (try rw [h3]); (try rw [h4]); (try rw [p1]); (try rw [p2]); (try rw [p3]); (try rw [p4]); (try rw [r1]); (try rw [r2]); (try rw [r3]); (try rw [r4]); (try rw [r5]); (try rw [r6]); (try rw [q3]); (try rw [q4]); (try rw [hp]); (try rw [hq]); go_big_quiet_on)))
          refine wpQuiet_nil ?_
          rintro _ ⟨tq, rfl⟩))
    refine bodyPost_ret (v := .agg #[.int .i64 0, .slice none 0 0, .int .i64 0, .slice none 0 0, .slice none 0 0, .slice none 0 0]) (by simp [results, Try.results44, go_sem]) rfl ?_
    rw [E1.out]
    exact ⟨⟨none, 0, none, 0, none, 0, none, 0⟩, rfl, zq0, Nat.le_refl _, [], by simp, by simp, ownL_nil_cll _⟩
  | true =>
    have mc0 : 2 ≤ m.c := (plcOk_iff.1 p2).1.1
    have mc1 : m.c ≤ 4 := (plcOk_iff.1 p2).1.2
    cases p3 : inB cell 0 (m.c - 1) with
    | false =>
      have p1 := True.intro
      have E1 := hid (show cllNew m cell xs = cllZ by simp [cllNew, newOk, p1, p2, p3])
      go_enter Try.func44, Try.ntmps44
      try go_wp2_with (first
          | (go_at_call 14; refine (sPlcOk_c _ _).mono ?_; rintro e w' ⟨rfl, t, rfl⟩) | (go_at_call 60; refine (l1In_c _ _ _ _).mono ?_; rintro e w' ⟨rfl, rfl⟩) | (go_at_call 45; refine (sWlkListOk_c _ _ _ _ _ _ (Re.of (Hid.out (by assumption)) zq0) (by omega)).mono ?_; rintro e w' ⟨rfl, t, rfl⟩)
          | (
            with_reducible refine wp_region_mix (by kernel_rfl) (by decide +kernel) ?_
            repeat (first
              | (refine mix_pure rfl ?_; (first | go_big_quiet_skip | (go_big_quiet_want; go_big_quiet_op; go_big_quiet_on)); refine wpQuiet_nil ?_)
              | (refine mix_skip (by rfl) ?_; (try simp only [Act.put, List.setIfInBounds_toArray, List.set_cons_zero, List.set_cons_succ]))
              | (refine mix_mk rfl (by rfl) (fun K hK => ?_); (first | (go_simp; first | (go_at_call 14; refine (sPlcOk_c _ _).mono ?_; rintro e w' ⟨rfl, t, rfl⟩) | (go_at_call 60; refine (l1In_c _ _ _ _).mono ?_; rintro e w' ⟨rfl, rfl⟩) | (go_at_call 45; refine (sWlkListOk_c _ _ _ _ _ _ (Re.of (Hid.out (by assumption)) zq0) (by omega)).mono ?_; rintro e w' ⟨rfl, t, rfl⟩) | skip)); (show K _ _); refine hK _ _ (show Ext _ _ from zq0) ?_; clear hK K; (try simp only [Act.put, List.setIfInBounds_toArray, List.set_cons_zero, List.set_cons_succ])))
            refine mix_nil ?_)
          | (
            with_reducible refine wp_region_ext (by kernel_rfl) (by kernel_rfl) ?_
            repeat (first | go_big_quiet_skip | (go_big_quiet_want; go_big_quiet_op; first | go_big_quiet_on | (apply Exists.intro; refine ⟨fun _ => ?_, ?_⟩; ((first | (go_at_call 14; first | exact quiet_call (sPlcOk_c _ _) | exact quiet_call2 (sPlcOk_c _ _)) | (go_at_call 60; first | exact quiet_same (l1In_c _ _ _ _) | exact quiet_same2 (l1In_c _ _ _ _)) | (go_at_call 45; first | exact quiet_call (sWlkListOk_c _ _ _ _ _ _ (Re.of (Hid.out (by assumption)) zq0) (by omega)) | exact quiet_call2 (sWlkListOk_c _ _ _ _ _ _ (Re.of (Hid.out (by assumption)) zq0) (by omega))))); (try rw [h1]); (try rw [h2]); (try rw [h3]); (try rw [h4]); (try rw [p1]); (try rw [p2]); (try rw [p3]); (try rw [p4]); (try rw [r1]); (try rw [r2]); (try rw [r3]); (try rw [r4]); (try rw [r5]); (try rw [r6]); (try rw [q3]); (try rw [q4]); (try rw [hp]); (try rw [hq]); go_big_quiet_on)))
            refine wpQuiet_nil ?_
            rintro _ ⟨tq, rfl⟩))
      refine bodyPost_ret (v := .agg #[.int .i64 0, .slice none 0 0, .int .i64 0, .slice none 0 0, .slice none 0 0, .slice none 0 0]) (by simp [results, Try.results44, go_sem]) rfl ?_
      rw [E1.out]
      exact ⟨⟨none, 0, none, 0, none, 0, none, 0⟩, rfl, zq0, Nat.le_refl _, [], by simp, by simp, ownL_nil_cll _⟩
    | true =>
      cases p1 : wlkAll m xs with
      | false =>
        have E1 := hid (show cllNew m cell xs = cllZ by simp [cllNew, newOk, p1, p2, p3])
        go_enter Try.func44, Try.ntmps44
        try go_wp2_with (first
            | (go_at_call 14; refine (sPlcOk_c _ _).mono ?_; rintro e w' ⟨rfl, t, rfl⟩) | (go_at_call 60; refine (l1In_c _ _ _ _).mono ?_; rintro e w' ⟨rfl, rfl⟩) | (go_at_call 45; refine (sWlkListOk_c _ _ _ _ _ _ (Re.of (Hid.out (by assumption)) zq0) (by omega)).mono ?_; rintro e w' ⟨rfl, t, rfl⟩)
            | (
              with_reducible refine wp_region_mix (by kernel_rfl) (by decide +kernel) ?_
              repeat (first
                | (refine mix_pure rfl ?_; (first | go_big_quiet_skip | (go_big_quiet_want; go_big_quiet_op; go_big_quiet_on)); refine wpQuiet_nil ?_)
                | (refine mix_skip (by rfl) ?_; (try simp only [Act.put, List.setIfInBounds_toArray, List.set_cons_zero, List.set_cons_succ]))
                | (refine mix_mk rfl (by rfl) (fun K hK => ?_); (first | (go_simp; first | (go_at_call 14; refine (sPlcOk_c _ _).mono ?_; rintro e w' ⟨rfl, t, rfl⟩) | (go_at_call 60; refine (l1In_c _ _ _ _).mono ?_; rintro e w' ⟨rfl, rfl⟩) | (go_at_call 45; refine (sWlkListOk_c _ _ _ _ _ _ (Re.of (Hid.out (by assumption)) zq0) (by omega)).mono ?_; rintro e w' ⟨rfl, t, rfl⟩) | skip)); (show K _ _); refine hK _ _ (show Ext _ _ from zq0) ?_; clear hK K; (try simp only [Act.put, List.setIfInBounds_toArray, List.set_cons_zero, List.set_cons_succ])))
              refine mix_nil ?_)
            | (
              with_reducible refine wp_region_ext (by kernel_rfl) (by kernel_rfl) ?_
              repeat (first | go_big_quiet_skip | (go_big_quiet_want; go_big_quiet_op; first | go_big_quiet_on | (apply Exists.intro; refine ⟨fun _ => ?_, ?_⟩; ((first | (go_at_call 14; first | exact quiet_call (sPlcOk_c _ _) | exact quiet_call2 (sPlcOk_c _ _)) | (go_at_call 60; first | exact quiet_same (l1In_c _ _ _ _) | exact quiet_same2 (l1In_c _ _ _ _)) | (go_at_call 45; first | exact quiet_call (sWlkListOk_c _ _ _ _ _ _ (Re.of (Hid.out (by assumption)) zq0) (by omega)) | exact quiet_call2 (sWlkListOk_c _ _ _ _ _ _ (Re.of (Hid.out (by assumption)) zq0) (by omega))))); (try rw [h1]); (try rw [h2]); (try rw [h3]); (try rw [h4]); (try rw [p1]); (try rw [p2]); (try rw [p3]); (try rw [p4]); (try rw [r1]); (try rw [r2]); (try rw [r3]); (try rw [r4]); (try rw [r5]); (try rw [r6]); (try rw [q3]); (try rw [q4]); (try rw [hp]); (try rw [hq]); go_big_quiet_on)))
              refine wpQuiet_nil ?_
              rintro _ ⟨tq, rfl⟩))
        refine bodyPost_ret (v := .agg #[.int .i64 0, .slice none 0 0, .int .i64 0, .slice none 0 0, .slice none 0 0, .slice none 0 0]) (by simp [results, Try.results44, go_sem]) rfl ?_
        rw [E1.out]
        exact ⟨⟨none, 0, none, 0, none, 0, none, 0⟩, rfl, zq0, Nat.le_refl _, [], by simp, by simp, ownL_nil_cll _⟩
      | true =>
        have EV := hid (show cllNew m cell xs = ⟨cell, xs.filter (homeIn m cell), 0, [[], []], [0, 0], [0, 0]⟩ by simp [cllNew, newOk, p1, p2, p3])
        go_enter Try.func44, Try.ntmps44
        try go_wp2_with (first
            | (go_at_call 14; refine (sPlcOk_c _ _).mono ?_; rintro e w' ⟨rfl, t, rfl⟩) | (go_at_call 60; refine (l1In_c _ _ _ _).mono ?_; rintro e w' ⟨rfl, rfl⟩) | (go_at_call 45; refine (sWlkListOk_c _ _ _ _ _ _ (Re.of (Hid.out (by assumption)) zq0) (by omega)).mono ?_; rintro e w' ⟨rfl, t, rfl⟩)
            | (
              with_reducible refine wp_region_mix (by kernel_rfl) (by decide +kernel) ?_
              repeat (first
                | (refine mix_pure rfl ?_; (first | go_big_quiet_skip | (go_big_quiet_want; go_big_quiet_op; go_big_quiet_on)); refine wpQuiet_nil ?_)
                | (refine mix_skip (by rfl) ?_; (try simp only [Act.put, List.setIfInBounds_toArray, List.set_cons_zero, List.set_cons_succ]))
                | (refine mix_mk rfl (by rfl) (fun K hK => ?_); (first | (go_simp; first | (go_at_call 14; refine (sPlcOk_c _ _).mono ?_; rintro e w' ⟨rfl, t, rfl⟩) | (go_at_call 60; refine (l1In_c _ _ _ _).mono ?_; rintro e w' ⟨rfl, rfl⟩) | (go_at_call 45; refine (sWlkListOk_c _ _ _ _ _ _ (Re.of (Hid.out (by assumption)) zq0) (by omega)).mono ?_; rintro e w' ⟨rfl, t, rfl⟩) | skip)); (show K _ _); refine hK _ _ (show Ext _ _ from zq0) ?_; clear hK K; (try simp only [Act.put, List.setIfInBounds_toArray, List.set_cons_zero, List.set_cons_succ])))
              refine mix_nil ?_)
            | (
              with_reducible refine wp_region_ext (by kernel_rfl) (by kernel_rfl) ?_
              repeat (first | go_big_quiet_skip | (go_big_quiet_want; go_big_quiet_op; first | go_big_quiet_on | (apply Exists.intro; refine ⟨fun _ => ?_, ?_⟩; ((first | (go_at_call 14; first | exact quiet_call (sPlcOk_c _ _) | exact quiet_call2 (sPlcOk_c _ _)) | (go_at_call 60; first | exact quiet_same (l1In_c _ _ _ _) | exact quiet_same2 (l1In_c _ _ _ _)) | (go_at_call 45; first | exact quiet_call (sWlkListOk_c _ _ _ _ _ _ (Re.of (Hid.out (by assumption)) zq0) (by omega)) | exact quiet_call2 (sWlkListOk_c _ _ _ _ _ _ (Re.of (Hid.out (by assumption)) zq0) (by omega))))); (try rw [h1]); (try rw [h2]); (try rw [h3]); (try rw [h4]); (try rw [p1]); (try rw [p2]); (try rw [p3]); (try rw [p4]); (try rw [r1]); (try rw [r2]); (try rw [r3]); (try rw [r4]); (try rw [r5]); (try rw [r6]); (try rw [q3]); (try rw [q4]); (try rw [hp]); (try rw [hq]); go_big_quiet_on)))
              refine wpQuiet_nil ?_
              rintro _ ⟨tq, rfl⟩))
        refine wp_gen fun X hX => ?_
        rename_i t1 K0 hK0
        generalize hEe : w.heap.size + 1 + 1 + (t1.add t).bs.size = E at hX ⊢
        have hT0 : X.heap[E + 1 + 1 + 1 + 1 + 1]? = some (.cells #[.int .i64 cell, .slice none 0 0, .int .i64 0, .slice (some ⟨E + 1 + 1, 0, none⟩) 2 2, .slice (some ⟨E + 1 + 1 + 1, 0, none⟩) 2 2, .slice (some ⟨E + 1 + 1 + 1 + 1, 0, none⟩) 2 2] 64 (0, 0)) := by rw [hX]; exact alloc_last (by rw [← hEe]; ((try simp [go_sem]) <;> (try simp [Xt.add]) <;> omega))
        have b5 : X.heap[E + 1 + 1 + 1 + 1]? = some (.cells #[.int .i64 0, .int .i64 0] 3 (0, 0)) := by rw [hX]; exact blk_alloc (alloc_last (by rw [← hEe]; ((try simp [go_sem]) <;> (try simp [Xt.add]) <;> omega)))
        have b4 : X.heap[E + 1 + 1 + 1]? = some (.cells #[.int .i64 0, .int .i64 0] 3 (0, 0)) := by rw [hX]; exact blk_alloc (blk_alloc (alloc_last (by rw [← hEe]; ((try simp [go_sem]) <;> (try simp [Xt.add]) <;> omega))))
        have b3 : X.heap[E + 1 + 1]? = some (.cells #[.slice (some ⟨E, 0, none⟩) 0 0, .slice (some ⟨E + 1, 0, none⟩) 0 0] 44 (0, 0)) := by rw [hX]; exact blk_alloc (blk_alloc (blk_alloc (alloc_last (by rw [← hEe]; ((try simp [go_sem]) <;> (try simp [Xt.add]) <;> omega)))))
        have hRX : X.heap[w.heap.size + 1]? = some (.cells #[.int .i64 0, .slice none 0 0, .int .i64 0, .slice none 0 0, .slice none 0 0, .slice none 0 0] 64 (0, 0)) := by rw [hX]; exact blk_alloc (blk_alloc (blk_alloc (blk_alloc (blk_alloc (blk_alloc (blk_ext (alloc_last (by simp))))))))
        have xM0 : X.cell? ⟨w.heap.size, 0, none⟩ = some (.int .i64 m.c) := by rw [hX]; simp [go_sem]
        have xM1 : X.cell? ⟨w.heap.size, 1, none⟩ = some (.int .i64 m.w) := by rw [hX]; simp [go_sem]
        have EB : Below w.heap.size w X := (show Ext w X by rw [hX]; ((try simp only [ext_drew]); (try simp only [ext_ext]); repeat (first | exact Ext.refl _ | with_reducible apply Ext.add | with_reducible apply Ext.dr | apply Ext.alloc | apply Ext.ext | apply Ext.drew | refine Ext.trans ?_ (by assumption)))).below
        have hEw : w.heap.size + 2 ≤ E := by omega
        have x3 := rowss_two (.inr ⟨_, rfl⟩) (.inr ⟨_, rfl⟩) b3
        have x4 := rowx_two b4
        have x5 := rowx_two b5
        clear b3 b4 b5 hX hEe
        generalize hTe : E + 1 + 1 + 1 + 1 + 1 = T at hT0 ⊢
        generalize h5e : E + 1 + 1 + 1 + 1 = g5 at hT0 x5 ⊢
        generalize h4e : E + 1 + 1 + 1 = g4 at hT0 x4 ⊢
        generalize h3e : E + 1 + 1 = g3 at hT0 x3 ⊢
        have HD := hid (show _ ∧ _ ∧ _ ∧ ([g3] ++ ([g4] ++ [g5])).Nodup ∧ T ∉ [g3] ++ ([g4] ++ [g5]) ∧ ∀ b ∈ [g3] ++ ([g4] ++ [g5]), w.heap.size + 2 ≤ b from ⟨x3, x4, x5, by simp; omega, by simp; omega, by simp; omega⟩)
        have hTw : w.heap.size + 2 ≤ T := by omega
        clear x3 x4 x5 hTe h5e h4e h3e
        have HRX := hid hRX
        have HEB := hid EB
        have HT0 := hid hT0
        have lTX := lt_blk hT0
        have lRX := lt_blk hRX
        clear hRX EB hT0
        go_loopw [8] (fun i wr => ∃ (k : Nat) (v : Value) (B : List Nat), k ≤ n ∧ i = .int .i64 k ∧ wr.heap[T]? = some (.cells #[.int .i64 cell, v, .int .i64 0, .slice (some ⟨g3, 0, none⟩) 2 2, .slice (some ⟨g4, 0, none⟩) 2 2, .slice (some ⟨g5, 0, none⟩) 2 2] 64 (0, 0)) ∧ RowX wr 52 5 Wlk.cells v ((xs.take k).filter (homeIn m cell)) B ∧ (∀ b ∈ B, X.heap.size ≤ b) ∧ Chg [T] X wr) (fun i _ => n - (intOf i).toNat)
        case atStart => exact ⟨0, .slice none 0 0, [], Nat.zero_le _, rfl, HT0.out, .inl ⟨rfl, rfl, none, rfl, .inl rfl⟩, by simp, Chg.refl _ _⟩
        case round =>
          obtain ⟨k, v, B, hk, rfl, hT, hrow, hbs, hch⟩ := hrel
          have HC := hid hch
          have HG := hid hrow
          have HGb := hid hbs
          have hsz := hch.size
          have lT : T < wr.heap.size := lt_blk hT
          have cT0 : wr.cell? ⟨T, 0, none⟩ = some (.int .i64 cell) := (cell_blk hT 0).trans rfl
          have cT1 : wr.cell? ⟨T, 1, none⟩ = some (v) := (cell_blk hT 1).trans rfl
          have cT2 : wr.cell? ⟨T, 2, none⟩ = some (.int .i64 0) := (cell_blk hT 2).trans rfl
          have cT3 : wr.cell? ⟨T, 3, none⟩ = some (.slice (some ⟨g3, 0, none⟩) 2 2) := (cell_blk hT 3).trans rfl
          have cT4 : wr.cell? ⟨T, 4, none⟩ = some (.slice (some ⟨g4, 0, none⟩) 2 2) := (cell_blk hT 4).trans rfl
          have cT5 : wr.cell? ⟨T, 5, none⟩ = some (.slice (some ⟨g5, 0, none⟩) 2 2) := (cell_blk hT 5).trans rfl
          have zT := frozen_blk hT 1
          have lM : w.heap.size < wr.heap.size := by omega
          have cM0 : wr.cell? ⟨w.heap.size, 0, none⟩ = some (.int .i64 m.c) := (hch.cell (by omega) (by simp; omega) 0).trans xM0
          have cM1 : wr.cell? ⟨w.heap.size, 1, none⟩ = some (.int .i64 m.w) := (hch.cell (by omega) (by simp; omega) 1).trans xM1
          have bR := (hch.block (w.heap.size + 1) (by omega) (by simp; omega)).trans HRX.out
          have cR0 : wr.cell? ⟨w.heap.size + 1, 0, none⟩ = some (.int .i64 0) := (cell_blk bR 0).trans rfl
          have zR0 := frozen_blk bR 0
          have cR1 : wr.cell? ⟨w.heap.size + 1, 1, none⟩ = some (.slice none 0 0) := (cell_blk bR 1).trans rfl
          have zR1 := frozen_blk bR 1
          have cR2 : wr.cell? ⟨w.heap.size + 1, 2, none⟩ = some (.int .i64 0) := (cell_blk bR 2).trans rfl
          have zR2 := frozen_blk bR 2
          have cR3 : wr.cell? ⟨w.heap.size + 1, 3, none⟩ = some (.slice none 0 0) := (cell_blk bR 3).trans rfl
          have zR3 := frozen_blk bR 3
          have cR4 : wr.cell? ⟨w.heap.size + 1, 4, none⟩ = some (.slice none 0 0) := (cell_blk bR 4).trans rfl
          have zR4 := frozen_blk bR 4
          have cR5 : wr.cell? ⟨w.heap.size + 1, 5, none⟩ = some (.slice none 0 0) := (cell_blk bR 5).trans rfl
          have zR5 := frozen_blk bR 5
          have lR : w.heap.size + 1 < wr.heap.size := by omega
          have hbel : Below w.heap.size w wr := Below.chg (w0 := w) HEB.out hch (fun b hb => by
            obtain rfl : b = T := by simpa using hb
            omega)
          have HXr := hid (Re.below HX.out hbel)
          have HBl := hid hbel
          have HTb := hid hT
          clear hT hrow hch hbel bR hbs
          by_cases hlt : k < n
          · obtain ⟨x, b1, o1, hxk, rfl, hb1, f0, f1, f2, f3, f4⟩ := at_Wlk HX.out hlt
            have hq : ∀ o, wr.cell? ⟨b1, o, none⟩ = w.cell? ⟨b1, o, none⟩ := fun o => World.cell?_of_block (a := ⟨b1, o, none⟩) (HBl.out.block b1 hb1)
            rw [← hq] at f0 f1 f2 f3 f4
            clear hq
            have lb1 : b1 < wr.heap.size := by omega
            have HK := hid hxk
            clear hxk
            by_cases hin : plcCell m x.at_ = cell
            · have HF := hid (filt_yes (p := homeIn m cell) HK.out (by simp [homeIn, hin]))
              have hlen : ((xs.take k).filter (homeIn m cell)).length ≤ 4194304 := by have := filt_len (homeIn m cell) xs k; omega
              try go_wp2_with (first
                  | (go_at_call 17; refine (sPlcCell_c _ _ _).mono ?_; rintro e w' ⟨rfl, t, rfl⟩)
                  | (
                    with_reducible refine wp_region_mix (by kernel_rfl) (by decide +kernel) ?_
                    repeat (first
                      | (refine mix_pure rfl ?_; (first | go_big_quiet_skip | (go_big_quiet_want; go_big_quiet_op; go_big_quiet_on)); refine wpQuiet_nil ?_)
                      | (refine mix_skip (by rfl) ?_; (try simp only [Act.put, List.setIfInBounds_toArray, List.set_cons_zero, List.set_cons_succ]))
                      | (refine mix_mk rfl (by rfl) (fun K hK => ?_); (first | (go_simp; first | (go_at_call 17; refine (sPlcCell_c _ _ _).mono ?_; rintro e w' ⟨rfl, t, rfl⟩) | skip)); (show K _ _); refine hK _ _ (show Ext _ _ from zq0) ?_; clear hK K; (try simp only [Act.put, List.setIfInBounds_toArray, List.set_cons_zero, List.set_cons_succ])))
                    refine mix_nil ?_)
                  | (
                    with_reducible refine wp_region_ext (by kernel_rfl) (by kernel_rfl) ?_
                    repeat (first | go_big_quiet_skip | (go_big_quiet_want; go_big_quiet_op; first | go_big_quiet_on | (apply Exists.intro; refine ⟨fun _ => ?_, ?_⟩; ((first | (go_at_call 17; first | exact quiet_call (sPlcCell_c _ _ _) | exact quiet_call2 (sPlcCell_c _ _ _)))); (try rw [h1]); (try rw [h2]); (try rw [h3]); (try rw [h4]); (try rw [p1]); (try rw [p2]); (try rw [p3]); (try rw [p4]); (try rw [r1]); (try rw [r2]); (try rw [r3]); (try rw [r4]); (try rw [r5]); (try rw [r6]); (try rw [q3]); (try rw [q4]); (try rw [hp]); (try rw [hq]); go_big_quiet_on)))
                    refine wpQuiet_nil ?_
                    rintro _ ⟨tq, rfl⟩))
              refine wp_gen fun Y hY => ?_
              have EY : Ext wr Y := by rw [hY]; ((try simp only [ext_drew]); (try simp only [ext_ext]); repeat (first | exact Ext.refl _ | with_reducible apply Ext.add | with_reducible apply Ext.dr | apply Ext.alloc | apply Ext.ext | apply Ext.drew | refine Ext.trans ?_ (by assumption)))
              have hCY : Chg [T] X Y := by rw [hY]; repeat (first | with_reducible exact HC.out | with_reducible apply Chg.drew | with_reducible apply Chg.alloc | with_reducible apply Chg.ext)
              have HC := hid hCY
              have HG := hid (HG.out.of EY)
              have hsz := hCY.size
              have HTb := hid ((EY.block lT).trans HTb.out)
              have g0 := (EY.cell lb1 _).trans f0
              have g1 := (EY.cell lb1 _).trans f1
              have g2 := (EY.cell lb1 _).trans f2
              have g3' := (EY.cell lb1 _).trans f3
              have g4' := (EY.cell lb1 _).trans f4
              have lb1 := Nat.lt_of_lt_of_le lb1 EY.size
              have cT1 := (EY.cell lT 1).trans cT1
              have lT := Nat.lt_of_lt_of_le lT EY.size
              have zT := frozen_blk HTb.out 1
              clear hY hCY f0 f1 f2 f3 f4
              obtain ⟨R, hRl, hRlo, hRne⟩ := rowX_R HG.out HGb.out hsz
              have HRl := hid hRl
              have hTR : T ≠ R := by omega
              have hRT : R ≠ T := by omega
              have hcR : Y.heap.size ≠ R := Ne.symm hRne
              have hMR : w.heap.size ≠ R := by omega
              have hbR : b1 ≠ R := by omega
              have dT : ∀ t, (ext Y.drew t).cell? ⟨T, 1, none⟩ = some v := fun t => (ext_cell' _ _ _ _ lT).trans cT1
              have dZ : ∀ t, (ext Y.drew t).frozen? ⟨T, 1, none⟩ = false := fun t => (ext_frozen' _ _ _ _ lT).trans zT
              clear hRl hRne
              try go_wp2_with (first
                  | (refine wp_appX (cells := Wlk.cells) (k := 5) (bytes := 40) (z := .agg #[.int .i64 0, .int .i64 0, .int .i64 0, .int .i64 0, .int .i64 0]) Try.underlying50 (by kernel_rfl) rfl (by decide) (by decide) (fun _ => rfl) (fun x u hu => by simp only [Wlk.cells, List.mem_cons, List.not_mem_nil, or_false] at hu; rcases hu with rfl | rfl | rfl | rfl | rfl <;> rfl) _ _ rfl rfl (HG.out.of zq0) x rfl (alloc_last (by (try simp [go_sem]) <;> (try simp [Xt.add]) <;> omega)) hlen ?_; intro v2 w2 R2 hr2 hc2 hR2; obtain ⟨sa, sc, e2⟩ := hr2.slice; rw [List.length_append, List.length_singleton] at e2; subst e2; have H2 := hid (row_two hr2 hR2 HGb.out (Nat.le_trans hsz (by (try simp [go_sem]) <;> (try simp [Xt.add]) <;> omega))); have hcR2 := hc2.mono (B' := [R]) (fun b hb => by rw [HRl.out b hb]; simp); have HC2 := hid hcR2; have l2 : T < w2.heap.size := Nat.lt_of_lt_of_le (by (try simp [go_sem]) <;> (try simp [Xt.add]) <;> omega) hcR2.size; have q2 : w2.cell? ⟨T, 1, none⟩ = some v := (hcR2.cell (by (try simp [go_sem]) <;> (try simp [Xt.add]) <;> omega) (by simp [hTR]) 1).trans (by simp [go_sem, cT1, lT, dT]); have b2 : w2.heap[T]? = some (.cells #[.int .i64 cell, v, .int .i64 0, .slice (some ⟨g3, 0, none⟩) 2 2, .slice (some ⟨g4, 0, none⟩) 2 2, .slice (some ⟨g5, 0, none⟩) 2 2] 64 (0, 0)) := (hcR2.block T (by (try simp [go_sem]) <;> (try simp [Xt.add]) <;> omega) (by simp [hTR])).trans (by repeat (first | with_reducible exact HTb.out | with_reducible apply blk_drew | with_reducible refine blk_set ?_ | (with_reducible refine blk_other ?_ (by first | assumption | omega)) | with_reducible refine blk_ext ?_ | with_reducible refine blk_alloc ?_)); have z2 : w2.frozen? ⟨T, 1, none⟩ = false := (Chg.frozen hcR2 (by (try simp [go_sem]) <;> (try simp [Xt.add]) <;> omega) (by simp [hTR]) 1).trans (by simp [go_sem, zT, lT, dZ]); have B2 := hid b2; clear hr2 hc2 b2 hcR2 hR2)
                  | (
                    with_reducible refine wp_region_NR (R) (by kernel_rfl) (by decide +kernel) (by decide +kernel) rfl rfl ?_
                    simp only [List.dropLast_cons_cons, List.dropLast_singleton]
                    repeat (first
                      | (refine mix_pure rfl ?_; (first | go_big_quiet_skip | (go_big_quiet_want; go_big_quiet_op; go_big_quiet_on)); refine wpQuiet_nil ?_)
                      | (refine mix_skip (by rfl) ?_; (try simp only [Act.put, List.setIfInBounds_toArray, List.set_cons_zero, List.set_cons_succ]))
                      | (refine mix_mk rfl (by rfl) (fun K hK => ?_); (first | (refine wp_appX (cells := Wlk.cells) (k := 5) (bytes := 40) (z := .agg #[.int .i64 0, .int .i64 0, .int .i64 0, .int .i64 0, .int .i64 0]) Try.underlying50 (by kernel_rfl) rfl (by decide) (by decide) (fun _ => rfl) (fun x u hu => by simp only [Wlk.cells, List.mem_cons, List.not_mem_nil, or_false] at hu; rcases hu with rfl | rfl | rfl | rfl | rfl <;> rfl) _ _ rfl rfl (HG.out.of zq0) x rfl (alloc_last (by (try simp [go_sem]) <;> (try simp [Xt.add]) <;> omega)) hlen ?_; intro v2 w2 R2 hr2 hc2 hR2; obtain ⟨sa, sc, e2⟩ := hr2.slice; rw [List.length_append, List.length_singleton] at e2; subst e2; have H2 := hid (row_two hr2 hR2 HGb.out (Nat.le_trans hsz (by (try simp [go_sem]) <;> (try simp [Xt.add]) <;> omega))); have hcR2 := hc2.mono (B' := [R]) (fun b hb => by rw [HRl.out b hb]; simp); have HC2 := hid hcR2; have l2 : T < w2.heap.size := Nat.lt_of_lt_of_le (by (try simp [go_sem]) <;> (try simp [Xt.add]) <;> omega) hcR2.size; have q2 : w2.cell? ⟨T, 1, none⟩ = some v := (hcR2.cell (by (try simp [go_sem]) <;> (try simp [Xt.add]) <;> omega) (by simp [hTR]) 1).trans (by simp [go_sem, cT1, lT, dT]); have b2 : w2.heap[T]? = some (.cells #[.int .i64 cell, v, .int .i64 0, .slice (some ⟨g3, 0, none⟩) 2 2, .slice (some ⟨g4, 0, none⟩) 2 2, .slice (some ⟨g5, 0, none⟩) 2 2] 64 (0, 0)) := (hcR2.block T (by (try simp [go_sem]) <;> (try simp [Xt.add]) <;> omega) (by simp [hTR])).trans (by repeat (first | with_reducible exact HTb.out | with_reducible apply blk_drew | with_reducible refine blk_set ?_ | (with_reducible refine blk_other ?_ (by first | assumption | omega)) | with_reducible refine blk_ext ?_ | with_reducible refine blk_alloc ?_)); have z2 : w2.frozen? ⟨T, 1, none⟩ = false := (Chg.frozen hcR2 (by (try simp [go_sem]) <;> (try simp [Xt.add]) <;> omega) (by simp [hTR]) 1).trans (by simp [go_sem, zT, lT, dZ]); have B2 := hid b2; clear hr2 hc2 b2 hcR2 hR2) | (go_simp; first | skip)); (show K _ _); refine hK _ _ (extR_of (by repeat (first | with_reducible exact Chg.refl _ _ | with_reducible apply Chg.drew | with_reducible apply Chg.drewl | with_reducible refine Chg.turn (by simp) | with_reducible refine Chg.both ?_ (by simp) | (with_reducible refine Chg.set ?_ (by simp) _) | with_reducible apply Chg.alloc | with_reducible apply Chg.ext | with_reducible refine Chg.trans ?_ (Hid.out (by assumption))))) ?_; clear hK K; (try simp only [Act.put, List.setIfInBounds_toArray, List.set_cons_zero, List.set_cons_succ])))
                    refine mixN_nil (fun K hK => ?_)
                    go_simp
                    (show K _ _)
                    refine hK _ _ ?_
                    clear hK K
                    (try simp only [Act.put, List.setIfInBounds_toArray, List.set_cons_zero, List.set_cons_succ])))
              go_roundw
              case rel =>
                obtain ⟨B', hE', hd'⟩ := H2.out
                refine ⟨k + 1, _, B', by omega, by go_num, (by exact blk_set B2.out), ?_, hd', Chg.set (Chg.up (by repeat (first | with_reducible exact HC.out | with_reducible apply Chg.drew | with_reducible apply Chg.alloc | with_reducible apply Chg.ext)) HC2.out (by simp; omega)) (by simp) _⟩
                rw [HF.out]
                exact hE'.chg ((Chg.refl [T] w2).set (b := T) (by simp) _) (fun b hb hm => by
                  obtain rfl : b = T := by simpa using hm
                  have := hd' _ hb
                  omega)
              case measure => simp [intOf]; omega
            · have HF := hid (filt_no (p := homeIn m cell) HK.out (by simp [homeIn, hin]))
              try go_wp2_with (first
                  | (go_at_call 17; refine (sPlcCell_c _ _ _).mono ?_; rintro e w' ⟨rfl, t, rfl⟩)
                  | (
                    with_reducible refine wp_region_mix (by kernel_rfl) (by decide +kernel) ?_
                    repeat (first
                      | (refine mix_pure rfl ?_; (first | go_big_quiet_skip | (go_big_quiet_want; go_big_quiet_op; go_big_quiet_on)); refine wpQuiet_nil ?_)
                      | (refine mix_skip (by rfl) ?_; (try simp only [Act.put, List.setIfInBounds_toArray, List.set_cons_zero, List.set_cons_succ]))
                      | (refine mix_mk rfl (by rfl) (fun K hK => ?_); (first | (go_simp; first | (go_at_call 17; refine (sPlcCell_c _ _ _).mono ?_; rintro e w' ⟨rfl, t, rfl⟩) | skip)); (show K _ _); refine hK _ _ (show Ext _ _ from zq0) ?_; clear hK K; (try simp only [Act.put, List.setIfInBounds_toArray, List.set_cons_zero, List.set_cons_succ])))
                    refine mix_nil ?_)
                  | (
                    with_reducible refine wp_region_ext (by kernel_rfl) (by kernel_rfl) ?_
                    repeat (first | go_big_quiet_skip | (go_big_quiet_want; go_big_quiet_op; first | go_big_quiet_on | (apply Exists.intro; refine ⟨fun _ => ?_, ?_⟩; ((first | (go_at_call 17; first | exact quiet_call (sPlcCell_c _ _ _) | exact quiet_call2 (sPlcCell_c _ _ _)))); (try rw [h1]); (try rw [h2]); (try rw [h3]); (try rw [h4]); (try rw [p1]); (try rw [p2]); (try rw [p3]); (try rw [p4]); (try rw [r1]); (try rw [r2]); (try rw [r3]); (try rw [r4]); (try rw [r5]); (try rw [r6]); (try rw [q3]); (try rw [q4]); (try rw [hp]); (try rw [hq]); go_big_quiet_on)))
                    refine wpQuiet_nil ?_
                    rintro _ ⟨tq, rfl⟩))
              go_roundw
              case rel =>
                refine ⟨k + 1, v, B, by omega, by go_num, (by exact (by repeat (first | with_reducible exact HTb.out | with_reducible apply blk_drew | with_reducible refine blk_set ?_ | (with_reducible refine blk_other ?_ (by first | assumption | omega)) | with_reducible refine blk_ext ?_ | with_reducible refine blk_alloc ?_))), ?_, HGb.out, (by repeat (first | with_reducible exact HC.out | with_reducible apply Chg.drew | with_reducible apply Chg.alloc | with_reducible apply Chg.ext))⟩
                rw [HF.out]
                exact HG.out.of zq0
              case measure => simp [intOf]; omega
          · have HE := hid (show xs.take k = xs from List.take_of_length_le (by rw [← HX.out.len]; omega))
            rw [HE.out] at HG
            obtain ⟨p1', q1', e3, hcx, hlo⟩ := cll_new_cx (cell := cell) (lo := w.heap.size + 2) HG.out HGb.out HC.out (by omega) HD.out.1 HD.out.2.1 HD.out.2.2.1 HD.out.2.2.2.1 HD.out.2.2.2.2.1 HD.out.2.2.2.2.2
            subst e3
            have HCX := hid hcx
            have HLO := hid hlo
            clear hcx hlo
            try go_wp2_with (first
                | fail
                | (
                  with_reducible refine wp_region_mix (by kernel_rfl) (by decide +kernel) ?_
                  repeat (first
                    | (refine mix_pure rfl ?_; (first | go_big_quiet_skip | (go_big_quiet_want; go_big_quiet_op; go_big_quiet_on)); refine wpQuiet_nil ?_)
                    | (refine mix_skip (by rfl) ?_; (try simp only [Act.put, List.setIfInBounds_toArray, List.set_cons_zero, List.set_cons_succ]))
                    | (refine mix_mk rfl (by rfl) (fun K hK => ?_); (first | (go_simp; first | skip)); (show K _ _); refine hK _ _ (show Ext _ _ from zq0) ?_; clear hK K; (try simp only [Act.put, List.setIfInBounds_toArray, List.set_cons_zero, List.set_cons_succ])))
                  refine mix_nil ?_)
                | (
                  with_reducible refine wp_region_ext (by kernel_rfl) (by kernel_rfl) ?_
                  repeat (first | go_big_quiet_skip | (go_big_quiet_want; go_big_quiet_op; first | go_big_quiet_on | (apply Exists.intro; refine ⟨fun _ => ?_, ?_⟩; (fail); (try rw [h1]); (try rw [h2]); (try rw [h3]); (try rw [h4]); (try rw [p1]); (try rw [p2]); (try rw [p3]); (try rw [p4]); (try rw [r1]); (try rw [r2]); (try rw [r3]); (try rw [r4]); (try rw [r5]); (try rw [r6]); (try rw [q3]); (try rw [q4]); (try rw [hp]); (try rw [hq]); go_big_quiet_on)))
                  refine wpQuiet_nil ?_
                  rintro _ ⟨tq, rfl⟩))
            generalize hne : (xs.filter (homeIn m cell)).length = nw at *
            refine bodyPost_ret (v := .agg #[.int .i64 cell, .slice p1' nw q1', .int .i64 0, .slice (some ⟨g3, 0, none⟩) 2 2, .slice (some ⟨g4, 0, none⟩) 2 2, .slice (some ⟨g5, 0, none⟩) 2 2]) (by simp [results, Try.results44, go_sem, cT0, cT1, cT2, cT3, cT4, cT5, cR0, cR1, cR2, cR3, cR4, cR5, lR, lT]) rfl ?_
            rw [EV.out]
            subst hne
            exact ⟨⟨p1', q1', _, _, _, _, _, _⟩, rfl, Ext.of_below (Below.chg (w0 := w) HBl.out (B := [w.heap.size + 1]) zq1 (by simp)), (HCX.out.chg (B' := [w.heap.size + 1]) zq1 (fun b hb => by have := HLO.out b hb; simp; omega)).own (fun b hb => by have := HLO.out b hb; omega)⟩
set_option maxRecDepth 100000 in
set_option maxHeartbeats 8000000 in
theorem iCllNew_c (m : Mp) (cell : Int) (xs : List Wlk) (a : Option Addr) (n c : Nat) (w : World) (hx : Re w (.sl sWlk) [.slice a n c] (.l (xs.map Wlk.dat))) (hn : n ≤ 1048576) :
    Calls Try.prog 42 #[.agg #[.int .i64 m.c, .int .i64 m.w], .int .i64 cell, .slice a n c] w (MadeC w (cllNew m cell xs)) := by
  have HX := hid hx
  clear hx
  cases p2 : plcOk m with
  | false =>
    have p1 := True.intro
    have p3 := True.intro
    have p1' : (wlkAll m xs && plcOk m) = false := by simp [p2]
    have E1 := hid (show cllNew m cell xs = cllZ by simp [cllNew, newOk, p1, p2, p3])
    go_enter Try.func42, Try.ntmps42
    try go_wp2_with (first
        | (go_at_call 76; refine (iWlkListOk_c _ _ _ _ _ _ (Re.of (Hid.out (by assumption)) zq0) (by omega)).mono ?_; rintro e w' ⟨rfl, t, rfl⟩) | (go_at_call 57; refine (hasCell_c _ _ _).mono ?_; rintro e w' ⟨rfl, t, rfl⟩)
        | (
          with_reducible refine wp_region_mix (by kernel_rfl) (by decide +kernel) ?_
          repeat (first
            | (refine mix_pure rfl ?_; (first | go_big_quiet_skip | (go_big_quiet_want; go_big_quiet_op; go_big_quiet_on)); refine wpQuiet_nil ?_)
            | (refine mix_skip (by rfl) ?_; (try simp only [Act.put, List.setIfInBounds_toArray, List.set_cons_zero, List.set_cons_succ]))
            | (refine mix_mk rfl (by rfl) (fun K hK => ?_); (first | (go_simp; first | (go_at_call 76; refine (iWlkListOk_c _ _ _ _ _ _ (Re.of (Hid.out (by assumption)) zq0) (by omega)).mono ?_; rintro e w' ⟨rfl, t, rfl⟩) | (go_at_call 57; refine (hasCell_c _ _ _).mono ?_; rintro e w' ⟨rfl, t, rfl⟩) | skip)); (show K _ _); refine hK _ _ (show Ext _ _ from zq0) ?_; clear hK K; (try simp only [Act.put, List.setIfInBounds_toArray, List.set_cons_zero, List.set_cons_succ])))
          refine mix_nil ?_)
        | (
          with_reducible refine wp_region_ext (by kernel_rfl) (by kernel_rfl) ?_
          repeat (first | go_big_quiet_skip | (go_big_quiet_want; go_big_quiet_op; first | go_big_quiet_on | (apply Exists.intro; refine ⟨fun _ => ?_, ?_⟩; ((first | (go_at_call 76; first | exact quiet_call (iWlkListOk_c _ _ _ _ _ _ (Re.of (Hid.out (by assumption)) zq0) (by omega)) | exact quiet_call2 (iWlkListOk_c _ _ _ _ _ _ (Re.of (Hid.out (by assumption)) zq0) (by omega))) | (go_at_call 57; first | exact quiet_call (hasCell_c _ _ _) | exact quiet_call2 (hasCell_c _ _ _)))); (try rw [h1]); (try rw [h2]); (try rw [h3]); (try rw [h4]); (try rw [p1]); (try rw [p2]); (try rw [p3]); (try rw [p4]); (try rw [r1]); (try rw [r2]); (try rw [r3]); (try rw [r4]); (try rw [r5]); (try rw [r6]); (try rw [q3]); (try rw [q4]); (try rw [hp]); (try rw [hq]); go_big_quiet_on)))
          refine wpQuiet_nil ?_
          rintro _ ⟨tq, rfl⟩))
    refine bodyPost_ret (v := .agg #[.int .i64 0, .slice none 0 0, .int .i64 0, .slice none 0 0, .slice none 0 0, .slice none 0 0]) (by simp [results, Try.results42, go_sem]) rfl ?_
    rw [E1.out]
    exact ⟨⟨none, 0, none, 0, none, 0, none, 0⟩, rfl, zq0, Nat.le_refl _, [], by simp, by simp, ownL_nil_cll _⟩
  | true =>
    cases p1 : wlkAll m xs with
    | false =>
      have p3 := True.intro
      have p1' : (wlkAll m xs && plcOk m) = false := by simp [p1]
      have E1 := hid (show cllNew m cell xs = cllZ by simp [cllNew, newOk, p1, p2, p3])
      go_enter Try.func42, Try.ntmps42
      try go_wp2_with (first
          | (go_at_call 76; refine (iWlkListOk_c _ _ _ _ _ _ (Re.of (Hid.out (by assumption)) zq0) (by omega)).mono ?_; rintro e w' ⟨rfl, t, rfl⟩) | (go_at_call 57; refine (hasCell_c _ _ _).mono ?_; rintro e w' ⟨rfl, t, rfl⟩)
          | (
            with_reducible refine wp_region_mix (by kernel_rfl) (by decide +kernel) ?_
            repeat (first
              | (refine mix_pure rfl ?_; (first | go_big_quiet_skip | (go_big_quiet_want; go_big_quiet_op; go_big_quiet_on)); refine wpQuiet_nil ?_)
              | (refine mix_skip (by rfl) ?_; (try simp only [Act.put, List.setIfInBounds_toArray, List.set_cons_zero, List.set_cons_succ]))
              | (refine mix_mk rfl (by rfl) (fun K hK => ?_); (first | (go_simp; first | (go_at_call 76; refine (iWlkListOk_c _ _ _ _ _ _ (Re.of (Hid.out (by assumption)) zq0) (by omega)).mono ?_; rintro e w' ⟨rfl, t, rfl⟩) | (go_at_call 57; refine (hasCell_c _ _ _).mono ?_; rintro e w' ⟨rfl, t, rfl⟩) | skip)); (show K _ _); refine hK _ _ (show Ext _ _ from zq0) ?_; clear hK K; (try simp only [Act.put, List.setIfInBounds_toArray, List.set_cons_zero, List.set_cons_succ])))
            refine mix_nil ?_)
          | (
            with_reducible refine wp_region_ext (by kernel_rfl) (by kernel_rfl) ?_
            repeat (first | go_big_quiet_skip | (go_big_quiet_want; go_big_quiet_op; first | go_big_quiet_on | (apply Exists.intro; refine ⟨fun _ => ?_, ?_⟩; ((first | (go_at_call 76; first | exact quiet_call (iWlkListOk_c _ _ _ _ _ _ (Re.of (Hid.out (by assumption)) zq0) (by omega)) | exact quiet_call2 (iWlkListOk_c _ _ _ _ _ _ (Re.of (Hid.out (by assumption)) zq0) (by omega))) | (go_at_call 57; first | exact quiet_call (hasCell_c _ _ _) | exact quiet_call2 (hasCell_c _ _ _)))); (try rw [h1]); (try rw [h2]); (try rw [h3]); (try rw [h4]); (try rw [p1]); (try rw [p2]); (try rw [p3]); (try rw [p4]); (try rw [r1]); (try rw [r2]); (try rw [r3]); (try rw [r4]); (try rw [r5]); (try rw [r6]); (try rw [q3]); (try rw [q4]); (try rw [hp]); (try rw [hq]); go_big_quiet_on)))
            refine wpQuiet_nil ?_
            rintro _ ⟨tq, rfl⟩))
      refine bodyPost_ret (v := .agg #[.int .i64 0, .slice none 0 0, .int .i64 0, .slice none 0 0, .slice none 0 0, .slice none 0 0]) (by simp [results, Try.results42, go_sem]) rfl ?_
      rw [E1.out]
      exact ⟨⟨none, 0, none, 0, none, 0, none, 0⟩, rfl, zq0, Nat.le_refl _, [], by simp, by simp, ownL_nil_cll _⟩
    | true =>
      have p1' : (wlkAll m xs && plcOk m) = true := by simp [p1, p2]
      cases p3 : inB cell 0 (m.c - 1) with
      | false =>
        have E1 := hid (show cllNew m cell xs = cllZ by simp [cllNew, newOk, p1, p2, p3])
        go_enter Try.func42, Try.ntmps42
        try go_wp2_with (first
            | (go_at_call 76; refine (iWlkListOk_c _ _ _ _ _ _ (Re.of (Hid.out (by assumption)) zq0) (by omega)).mono ?_; rintro e w' ⟨rfl, t, rfl⟩) | (go_at_call 57; refine (hasCell_ok _ (by assumption) _ _).mono ?_; rintro e w' ⟨rfl, t, rfl⟩)
            | (
              with_reducible refine wp_region_mix (by kernel_rfl) (by decide +kernel) ?_
              repeat (first
                | (refine mix_pure rfl ?_; (first | go_big_quiet_skip | (go_big_quiet_want; go_big_quiet_op; go_big_quiet_on)); refine wpQuiet_nil ?_)
                | (refine mix_skip (by rfl) ?_; (try simp only [Act.put, List.setIfInBounds_toArray, List.set_cons_zero, List.set_cons_succ]))
                | (refine mix_mk rfl (by rfl) (fun K hK => ?_); (first | (go_simp; first | (go_at_call 76; refine (iWlkListOk_c _ _ _ _ _ _ (Re.of (Hid.out (by assumption)) zq0) (by omega)).mono ?_; rintro e w' ⟨rfl, t, rfl⟩) | (go_at_call 57; refine (hasCell_ok _ (by assumption) _ _).mono ?_; rintro e w' ⟨rfl, t, rfl⟩) | skip)); (show K _ _); refine hK _ _ (show Ext _ _ from zq0) ?_; clear hK K; (try simp only [Act.put, List.setIfInBounds_toArray, List.set_cons_zero, List.set_cons_succ])))
              refine mix_nil ?_)
            | (
              with_reducible refine wp_region_ext (by kernel_rfl) (by kernel_rfl) ?_
              repeat (first | go_big_quiet_skip | (go_big_quiet_want; go_big_quiet_op; first | go_big_quiet_on | (apply Exists.intro; refine ⟨fun _ => ?_, ?_⟩; ((first | (go_at_call 76; first | exact quiet_call (iWlkListOk_c _ _ _ _ _ _ (Re.of (Hid.out (by assumption)) zq0) (by omega)) | exact quiet_call2 (iWlkListOk_c _ _ _ _ _ _ (Re.of (Hid.out (by assumption)) zq0) (by omega))) | (go_at_call 57; first | exact quiet_call (hasCell_ok _ (by assumption) _ _) | exact quiet_call2 (hasCell_ok _ (by assumption) _ _)))); (try rw [h1]); (try rw [h2]); (try rw [h3]); (try rw [h4]); (try rw [p1]); (try rw [p2]); (try rw [p3]); (try rw [p4]); (try rw [r1]); (try rw [r2]); (try rw [r3]); (try rw [r4]); (try rw [r5]); (try rw [r6]); (try rw [q3]); (try rw [q4]); (try rw [hp]); (try rw [hq]); go_big_quiet_on)))
              refine wpQuiet_nil ?_
              rintro _ ⟨tq, rfl⟩))
        refine bodyPost_ret (v := .agg #[.int .i64 0, .slice none 0 0, .int .i64 0, .slice none 0 0, .slice none 0 0, .slice none 0 0]) (by simp [results, Try.results42, go_sem]) rfl ?_
        rw [E1.out]
        exact ⟨⟨none, 0, none, 0, none, 0, none, 0⟩, rfl, zq0, Nat.le_refl _, [], by simp, by simp, ownL_nil_cll _⟩
      | true =>
        have EV := hid (show cllNew m cell xs = ⟨cell, xs.filter (homeIn m cell), 0, [[], []], [0, 0], [0, 0]⟩ by simp [cllNew, newOk, p1, p2, p3])
        go_enter Try.func42, Try.ntmps42
        try go_wp2_with (first
            | (go_at_call 76; refine (iWlkListOk_c _ _ _ _ _ _ (Re.of (Hid.out (by assumption)) zq0) (by omega)).mono ?_; rintro e w' ⟨rfl, t, rfl⟩) | (go_at_call 57; refine (hasCell_ok _ (by assumption) _ _).mono ?_; rintro e w' ⟨rfl, t, rfl⟩)
            | (
              with_reducible refine wp_region_mix (by kernel_rfl) (by decide +kernel) ?_
              repeat (first
                | (refine mix_pure rfl ?_; (first | go_big_quiet_skip | (go_big_quiet_want; go_big_quiet_op; go_big_quiet_on)); refine wpQuiet_nil ?_)
                | (refine mix_skip (by rfl) ?_; (try simp only [Act.put, List.setIfInBounds_toArray, List.set_cons_zero, List.set_cons_succ]))
                | (refine mix_mk rfl (by rfl) (fun K hK => ?_); (first | (go_simp; first | (go_at_call 76; refine (iWlkListOk_c _ _ _ _ _ _ (Re.of (Hid.out (by assumption)) zq0) (by omega)).mono ?_; rintro e w' ⟨rfl, t, rfl⟩) | (go_at_call 57; refine (hasCell_ok _ (by assumption) _ _).mono ?_; rintro e w' ⟨rfl, t, rfl⟩) | skip)); (show K _ _); refine hK _ _ (show Ext _ _ from zq0) ?_; clear hK K; (try simp only [Act.put, List.setIfInBounds_toArray, List.set_cons_zero, List.set_cons_succ])))
              refine mix_nil ?_)
            | (
              with_reducible refine wp_region_ext (by kernel_rfl) (by kernel_rfl) ?_
              repeat (first | go_big_quiet_skip | (go_big_quiet_want; go_big_quiet_op; first | go_big_quiet_on | (apply Exists.intro; refine ⟨fun _ => ?_, ?_⟩; ((first | (go_at_call 76; first | exact quiet_call (iWlkListOk_c _ _ _ _ _ _ (Re.of (Hid.out (by assumption)) zq0) (by omega)) | exact quiet_call2 (iWlkListOk_c _ _ _ _ _ _ (Re.of (Hid.out (by assumption)) zq0) (by omega))) | (go_at_call 57; first | exact quiet_call (hasCell_ok _ (by assumption) _ _) | exact quiet_call2 (hasCell_ok _ (by assumption) _ _)))); (try rw [h1]); (try rw [h2]); (try rw [h3]); (try rw [h4]); (try rw [p1]); (try rw [p2]); (try rw [p3]); (try rw [p4]); (try rw [r1]); (try rw [r2]); (try rw [r3]); (try rw [r4]); (try rw [r5]); (try rw [r6]); (try rw [q3]); (try rw [q4]); (try rw [hp]); (try rw [hq]); go_big_quiet_on)))
              refine wpQuiet_nil ?_
              rintro _ ⟨tq, rfl⟩))
        refine wp_region_flow [21, 22, 23, 24, 25, 7] (fun i σ lo hi w9 => match i with
          | 0 => σ 0 = .int .i64 cell
          | 1 => MkB #[.slice none 0 0, .slice none 0 0] 44 2 (σ 1) lo hi w9
          | 2 => MkB #[.int .i64 0, .int .i64 0] 3 2 (σ 2) lo hi w9
          | 3 => MkB #[.int .i64 0, .int .i64 0] 3 2 (σ 3) lo hi w9
          | 4 => σ 4 = .agg #[.int .i64 cell, .slice none 0 0, .int .i64 0, σ 1, σ 2, σ 3]
          | _ => MkA #[.int .i64 0, .slice none 0 0, .int .i64 0, .slice none 0 0, .slice none 0 0, .slice none 0 0] 64 (σ 5) lo hi w9) (by kernel_rfl) (by decide +kernel) (by simp) ?_ ?_ ?_ ?_
        · intro i oo hi ho σ σ' lo hi' w9 h hS
          match i, hi, ho with
          | 0, _, ho =>
            have e0 := h 0 (.inl rfl)
            try dsimp only at hS ⊢
            rw [e0] at hS
            exact hS
          | 1, _, ho =>
            have e0 := h 1 (.inl rfl)
            try dsimp only at hS ⊢
            rw [e0] at hS
            exact hS
          | 2, _, ho =>
            have e0 := h 2 (.inl rfl)
            try dsimp only at hS ⊢
            rw [e0] at hS
            exact hS
          | 3, _, ho =>
            have e0 := h 3 (.inl rfl)
            try dsimp only at hS ⊢
            rw [e0] at hS
            exact hS
          | 4, _, ho =>
            have e0 := h 4 (.inl rfl)
            obtain rfl := Option.some.inj ho
            have e2 := h 1 (.inr (by kernel_rfl))
            have e3 := h 2 (.inr (by kernel_rfl))
            have e4 := h 3 (.inr (by kernel_rfl))
            try dsimp only at hS ⊢
            rw [e0, e2, e3, e4] at hS
            exact hS
          | 5, _, ho =>
            have e0 := h 5 (.inl rfl)
            try dsimp only at hS ⊢
            rw [e0] at hS
            exact hS
        · intro i hi σ lo hi' w9 w8 hS hle hE
          match i, hi with
          | 0, _ => exact hS
          | 1, _ => exact MkB.ext hS hE
          | 2, _ => exact MkB.ext hS hE
          | 3, _ => exact MkB.ext hS hE
          | 4, _ => exact hS
          | 5, _ => exact MkA.ext hS hE
        · intro i oo hi ho σ L H w9 hE hd
          obtain ⟨t9, rfl⟩ := hE
          match i, hi, ho with
          | 0, _, ho =>
            obtain rfl := Option.some.inj ho
            clear hd ho
            simp only [actS, putS, List.setIfInBounds_toArray, List.set_cons_zero, List.set_cons_succ, Nat.reduceAdd]
            refine flow_K (fun K hK => ?_)
            go_simp
            (show K _ _)
            exact hK _ _ ⟨_, rfl, (show Ext _ _ from zq0), rfl⟩
          | 1, _, ho =>
            obtain rfl := Option.some.inj ho
            clear hd ho
            simp only [actS, putS, List.setIfInBounds_toArray, List.set_cons_zero, List.set_cons_succ, Nat.reduceAdd]
            refine flow_K (fun K hK => ?_)
            go_simp
            (show K _ _)
            exact hK _ _ ⟨_, rfl, (show Ext _ _ from zq0), ⟨_, rfl, (by first | exact Nat.le_refl _ | simp [go_sem]), (by first | omega | simp [go_sem]), push_new rfl (by kernel_rfl)⟩⟩
          | 2, _, ho =>
            obtain rfl := Option.some.inj ho
            clear hd ho
            simp only [actS, putS, List.setIfInBounds_toArray, List.set_cons_zero, List.set_cons_succ, Nat.reduceAdd]
            refine flow_K (fun K hK => ?_)
            go_simp
            (show K _ _)
            exact hK _ _ ⟨_, rfl, (show Ext _ _ from zq0), ⟨_, rfl, (by first | exact Nat.le_refl _ | simp [go_sem]), (by first | omega | simp [go_sem]), push_new rfl (by kernel_rfl)⟩⟩
          | 3, _, ho =>
            obtain rfl := Option.some.inj ho
            clear hd ho
            simp only [actS, putS, List.setIfInBounds_toArray, List.set_cons_zero, List.set_cons_succ, Nat.reduceAdd]
            refine flow_K (fun K hK => ?_)
            go_simp
            (show K _ _)
            exact hK _ _ ⟨_, rfl, (show Ext _ _ from zq0), ⟨_, rfl, (by first | exact Nat.le_refl _ | simp [go_sem]), (by first | omega | simp [go_sem]), push_new rfl (by kernel_rfl)⟩⟩
          | 4, _, ho =>
            obtain rfl := Option.some.inj ho
            have e0 : σ 0 = .int .i64 cell := (hd 0 (by kernel_rfl)).2.2.2
            obtain ⟨bz1, e1, _, _, _⟩ : MkB #[.slice none 0 0, .slice none 0 0] 44 2 (σ 1) (L 1) (H 1) _ := (hd 1 (by kernel_rfl)).2.2.2
            obtain ⟨bz2, e2, _, _, _⟩ : MkB #[.int .i64 0, .int .i64 0] 3 2 (σ 2) (L 2) (H 2) _ := (hd 2 (by kernel_rfl)).2.2.2
            obtain ⟨bz3, e3, _, _, _⟩ : MkB #[.int .i64 0, .int .i64 0] 3 2 (σ 3) (L 3) (H 3) _ := (hd 3 (by kernel_rfl)).2.2.2
            clear hd ho
            simp only [actS, putS, List.setIfInBounds_toArray, List.set_cons_zero, List.set_cons_succ, Nat.reduceAdd, e0, e1, e2, e3]
            refine flow_K (fun K hK => ?_)
            go_simp
            (show K _ _)
            exact hK _ _ ⟨_, rfl, (show Ext _ _ from zq0), (by simp)⟩
          | 5, _, ho =>
            obtain rfl := Option.some.inj ho
            clear hd ho
            simp only [actS, putS, List.setIfInBounds_toArray, List.set_cons_zero, List.set_cons_succ, Nat.reduceAdd]
            refine flow_K (fun K hK => ?_)
            go_simp
            (show K _ _)
            exact hK _ _ ⟨_, rfl, (show Ext _ _ from zq0), ⟨_, rfl, by simp [go_sem], by simp [go_sem], heap_new (by simp [go_sem])⟩⟩
        · intro oo ho σ L H w9 hE hd hap
          obtain ⟨t9, rfl⟩ := hE
          obtain ⟨l0, m0, u0, s0⟩ := hd 0 (by decide)
          have e0 : σ 0 = .int .i64 cell := s0
          clear s0
          obtain ⟨l1, m1, u1, s1⟩ := hd 1 (by decide)
          obtain ⟨bz1, e1, zl1, zh1, hz1⟩ : MkB #[.slice none 0 0, .slice none 0 0] 44 2 (σ 1) (L 1) (H 1) _ := s1
          obtain ⟨l2, m2, u2, s2⟩ := hd 2 (by decide)
          obtain ⟨bz2, e2, zl2, zh2, hz2⟩ : MkB #[.int .i64 0, .int .i64 0] 3 2 (σ 2) (L 2) (H 2) _ := s2
          obtain ⟨l3, m3, u3, s3⟩ := hd 3 (by decide)
          obtain ⟨bz3, e3, zl3, zh3, hz3⟩ : MkB #[.int .i64 0, .int .i64 0] 3 2 (σ 3) (L 3) (H 3) _ := s3
          obtain ⟨l4, m4, u4, s4⟩ := hd 4 (by decide)
          have e4 : σ 4 = .agg #[.int .i64 cell, .slice none 0 0, .int .i64 0, σ 1, σ 2, σ 3] := s4
          clear s4
          obtain ⟨l5, m5, u5, s5⟩ := hd 5 (by decide)
          obtain ⟨bx, e5, bl, bh, hbx⟩ : MkA #[.int .i64 0, .slice none 0 0, .int .i64 0, .slice none 0 0, .slice none 0 0, .slice none 0 0] 64 (σ 5) (L 5) (H 5) _ := s5
          rw [e1, e2, e3] at e4
          clear hd
          try simp only [ext_ext] at hz1 hz2 hz3 hbx
          have y0 := (cell_blk hbx 0).trans (show _ = some (Value.int .i64 0) from rfl)
          have z0 := frozen_blk hbx 0
          have y1 := (cell_blk hbx 1).trans (show _ = some (Value.slice none 0 0) from rfl)
          have z1 := frozen_blk hbx 1
          have y2 := (cell_blk hbx 2).trans (show _ = some (Value.int .i64 0) from rfl)
          have z2 := frozen_blk hbx 2
          have y3 := (cell_blk hbx 3).trans (show _ = some (Value.slice none 0 0) from rfl)
          have z3 := frozen_blk hbx 3
          have y4 := (cell_blk hbx 4).trans (show _ = some (Value.slice none 0 0) from rfl)
          have z4 := frozen_blk hbx 4
          have y5 := (cell_blk hbx 5).trans (show _ = some (Value.slice none 0 0) from rfl)
          have z5 := frozen_blk hbx 5
          have HBX := hid hbx
          have lbx := lt_blk hbx
          clear hbx
          simp only [actS, putS, List.setIfInBounds_toArray, List.set_cons_zero, List.set_cons_succ, Nat.reduceAdd, e0, e1, e2, e3, e4, e5]
          obtain rfl := Option.some.inj ho
          refine flow_K (fun K hK => ?_)
          go_simp
          (show K _ _)
          refine hK _ _ ?_
          clear hK K ho
          try simp only [Act.put, List.setIfInBounds_toArray, List.set_cons_zero, List.set_cons_succ]
          simp only [Exit.then]
          rename_i hKont
          refine hKont _ _ ?_
          clear hKont
          refine wp_gen fun X hX => ?_
          have hC := chg_six hX
          have hT0 : X.heap[bx]? = some (.cells #[.int .i64 cell, .slice none 0 0, .int .i64 0, .slice (some ⟨bz1, 0, none⟩) 2 2, .slice (some ⟨bz2, 0, none⟩) 2 2, .slice (some ⟨bz3, 0, none⟩) 2 2] 64 (0, 0)) := by rw [hX]; exact blk_set (blk_set (blk_set (blk_set (blk_set (blk_set HBX.out)))))
          obtain ⟨Y, hY, hCY⟩ := chg_left hC
          have EY : Ext w Y := by rw [hY]; ((try simp only [ext_drew]); (try simp only [ext_ext]); repeat (first | exact Ext.refl _ | with_reducible apply Ext.add | with_reducible apply Ext.dr | apply Ext.alloc | apply Ext.ext | apply Ext.drew | refine Ext.trans ?_ (by assumption)))
          have d12 := hap 1 2 (by decide) (by decide) (by decide)
          have d13 := hap 1 3 (by decide) (by decide) (by decide)
          have d23 := hap 2 3 (by decide) (by decide) (by decide)
          have d15 := hap 1 5 (by decide) (by decide) (by decide)
          have d25 := hap 2 5 (by decide) (by decide) (by decide)
          have d35 := hap 3 5 (by decide) (by decide) (by decide)
          have hl1 : w.heap.size + 2 ≤ L 1 := Nat.le_trans (by (try simp [go_sem]) <;> (try simp [Xt.add]) <;> omega) l1
          have hl2 : w.heap.size + 2 ≤ L 2 := Nat.le_trans (by (try simp [go_sem]) <;> (try simp [Xt.add]) <;> omega) l2
          have hl3 : w.heap.size + 2 ≤ L 3 := Nat.le_trans (by (try simp [go_sem]) <;> (try simp [Xt.add]) <;> omega) l3
          have hl5 : w.heap.size + 2 ≤ L 5 := Nat.le_trans (by (try simp [go_sem]) <;> (try simp [Xt.add]) <;> omega) l5
          have n1 : bz1 ≠ bx := by omega
          have n2 : bz2 ≠ bx := by omega
          have n3 : bz3 ≠ bx := by omega
          have n12 : bz1 ≠ bz2 := by omega
          have n13 : bz1 ≠ bz3 := by omega
          have n23 : bz2 ≠ bz3 := by omega
          have k1 : w.heap.size + 2 ≤ bz1 := by omega
          have k2 : w.heap.size + 2 ≤ bz2 := by omega
          have k3 : w.heap.size + 2 ≤ bz3 := by omega
          have hTw : w.heap.size + 2 ≤ bx := by omega
          clear d12 d13 d23 d15 d25 d35 hl1 hl2 hl3 hl5
          have x3 := rowss_two (.inl rfl) (.inl rfl) ((hC.block bz1 (lt_blk hz1) (by simpa using n1)).trans hz1)
          have x4 := rowx_two ((hC.block bz2 (lt_blk hz2) (by simpa using n2)).trans hz2)
          have x5 := rowx_two ((hC.block bz3 (lt_blk hz3) (by simpa using n3)).trans hz3)
          have hMB : w.heap.size ∉ [bx] := by simp; omega
          have hRB : w.heap.size + 1 ∉ [bx] := by simp; omega
          have xM0 : X.cell? ⟨w.heap.size, 0, none⟩ = some (.int .i64 m.c) := (hC.cell (by (try simp [go_sem]) <;> (try simp [Xt.add]) <;> omega) hMB 0).trans (by simp [go_sem])
          have xM1 : X.cell? ⟨w.heap.size, 1, none⟩ = some (.int .i64 m.w) := (hC.cell (by (try simp [go_sem]) <;> (try simp [Xt.add]) <;> omega) hMB 1).trans (by simp [go_sem])
          have hRX : X.heap[w.heap.size + 1]? = some (.cells #[.int .i64 0, .slice none 0 0, .int .i64 0, .slice none 0 0, .slice none 0 0, .slice none 0 0] 64 (0, 0)) := (hC.block _ (by (try simp [go_sem]) <;> (try simp [Xt.add]) <;> omega) hRB).trans ((ext_block _ _ _ (by (try simp [go_sem]) <;> (try simp [Xt.add]) <;> omega)).trans (heap_new (by simp)))
          have EB : Below w.heap.size w X := Below.chg (w0 := w) EY.below hCY (fun b hb => by
            obtain rfl : b = bx := by simpa using hb
            omega)
          have HD := hid (show _ ∧ _ ∧ _ ∧ ([bz1] ++ ([bz2] ++ [bz3])).Nodup ∧ bx ∉ [bz1] ++ ([bz2] ++ [bz3]) ∧ ∀ b ∈ [bz1] ++ ([bz2] ++ [bz3]), w.heap.size + 2 ≤ b from ⟨x3, x4, x5, by simp; omega, by simp; omega, by simp; omega⟩)
          clear y0 y1 y2 y3 y4 y5 z0 z1 z2 z3 z4 z5
          clear hX hC hCY hY x3 x4 x5 HBX hMB hRB lbx hap bl bh EY
          clear hz1 hz2 hz3 zl1 zl2 zl3 zh1 zh2 zh3
          clear e0 e1 e2 e3 e4 e5
          clear l0 l1 l2 l3 l4 l5 m0 m1 m2 m3 m4 m5 u0 u1 u2 u3 u4 u5
          generalize bx = T at *
          generalize bz1 = g3 at *
          generalize bz2 = g4 at *
          generalize bz3 = g5 at *
          have HRX := hid hRX
          have HEB := hid EB
          have HT0 := hid hT0
          have lTX := lt_blk hT0
          have lRX := lt_blk hRX
          clear hRX EB hT0
          try go_wp2_with (first
              | fail
              | (
                with_reducible refine wp_region_mix (by kernel_rfl) (by decide +kernel) ?_
                repeat (first
                  | (refine mix_pure rfl ?_; (first | go_big_quiet_skip | (go_big_quiet_want; go_big_quiet_op; go_big_quiet_on)); refine wpQuiet_nil ?_)
                  | (refine mix_skip (by rfl) ?_; (try simp only [Act.put, List.setIfInBounds_toArray, List.set_cons_zero, List.set_cons_succ]))
                  | (refine mix_mk rfl (by rfl) (fun K hK => ?_); (first | (go_simp; first | skip)); (show K _ _); refine hK _ _ (show Ext _ _ from zq0) ?_; clear hK K; (try simp only [Act.put, List.setIfInBounds_toArray, List.set_cons_zero, List.set_cons_succ])))
                refine mix_nil ?_)
              | (
                with_reducible refine wp_region_ext (by kernel_rfl) (by kernel_rfl) ?_
                repeat (first | go_big_quiet_skip | (go_big_quiet_want; go_big_quiet_op; first | go_big_quiet_on | (apply Exists.intro; refine ⟨fun _ => ?_, ?_⟩; (fail); (try rw [h1]); (try rw [h2]); (try rw [h3]); (try rw [h4]); (try rw [p1]); (try rw [p2]); (try rw [p3]); (try rw [p4]); (try rw [r1]); (try rw [r2]); (try rw [r3]); (try rw [r4]); (try rw [r5]); (try rw [r6]); (try rw [q3]); (try rw [q4]); (try rw [hp]); (try rw [hq]); go_big_quiet_on)))
                refine wpQuiet_nil ?_
                rintro _ ⟨tq, rfl⟩))
          go_loopw [28] (fun i wr => ∃ (k : Nat) (v : Value) (B : List Nat), k ≤ n ∧ i = .int .i64 k ∧ wr.heap[T]? = some (.cells #[.int .i64 cell, v, .int .i64 0, .slice (some ⟨g3, 0, none⟩) 2 2, .slice (some ⟨g4, 0, none⟩) 2 2, .slice (some ⟨g5, 0, none⟩) 2 2] 64 (0, 0)) ∧ RowX wr 52 5 Wlk.cells v ((xs.take k).filter (homeIn m cell)) B ∧ (∀ b ∈ B, X.heap.size ≤ b) ∧ Chg [T] X wr) (fun i _ => n - (intOf i).toNat)
          case atStart => exact ⟨0, .slice none 0 0, [], Nat.zero_le _, rfl, HT0.out, .inl ⟨rfl, rfl, none, rfl, .inl rfl⟩, by simp, Chg.refl _ _⟩
          case round =>
            obtain ⟨k, v, B, hk, rfl, hT, hrow, hbs, hch⟩ := hrel
            have HC := hid hch
            have HG := hid hrow
            have HGb := hid hbs
            have hsz := hch.size
            have lT : T < wr.heap.size := lt_blk hT
            have cT0 : wr.cell? ⟨T, 0, none⟩ = some (.int .i64 cell) := (cell_blk hT 0).trans rfl
            have cT1 : wr.cell? ⟨T, 1, none⟩ = some (v) := (cell_blk hT 1).trans rfl
            have cT2 : wr.cell? ⟨T, 2, none⟩ = some (.int .i64 0) := (cell_blk hT 2).trans rfl
            have cT3 : wr.cell? ⟨T, 3, none⟩ = some (.slice (some ⟨g3, 0, none⟩) 2 2) := (cell_blk hT 3).trans rfl
            have cT4 : wr.cell? ⟨T, 4, none⟩ = some (.slice (some ⟨g4, 0, none⟩) 2 2) := (cell_blk hT 4).trans rfl
            have cT5 : wr.cell? ⟨T, 5, none⟩ = some (.slice (some ⟨g5, 0, none⟩) 2 2) := (cell_blk hT 5).trans rfl
            have zT := frozen_blk hT 1
            have lM : w.heap.size < wr.heap.size := by omega
            have cM0 : wr.cell? ⟨w.heap.size, 0, none⟩ = some (.int .i64 m.c) := (hch.cell (by omega) (by simp; omega) 0).trans xM0
            have cM1 : wr.cell? ⟨w.heap.size, 1, none⟩ = some (.int .i64 m.w) := (hch.cell (by omega) (by simp; omega) 1).trans xM1
            have bR := (hch.block (w.heap.size + 1) (by omega) (by simp; omega)).trans HRX.out
            have cR0 : wr.cell? ⟨w.heap.size + 1, 0, none⟩ = some (.int .i64 0) := (cell_blk bR 0).trans rfl
            have zR0 := frozen_blk bR 0
            have cR1 : wr.cell? ⟨w.heap.size + 1, 1, none⟩ = some (.slice none 0 0) := (cell_blk bR 1).trans rfl
            have zR1 := frozen_blk bR 1
            have cR2 : wr.cell? ⟨w.heap.size + 1, 2, none⟩ = some (.int .i64 0) := (cell_blk bR 2).trans rfl
            have zR2 := frozen_blk bR 2
            have cR3 : wr.cell? ⟨w.heap.size + 1, 3, none⟩ = some (.slice none 0 0) := (cell_blk bR 3).trans rfl
            have zR3 := frozen_blk bR 3
            have cR4 : wr.cell? ⟨w.heap.size + 1, 4, none⟩ = some (.slice none 0 0) := (cell_blk bR 4).trans rfl
            have zR4 := frozen_blk bR 4
            have cR5 : wr.cell? ⟨w.heap.size + 1, 5, none⟩ = some (.slice none 0 0) := (cell_blk bR 5).trans rfl
            have zR5 := frozen_blk bR 5
            have lR : w.heap.size + 1 < wr.heap.size := by omega
            have hbel : Below w.heap.size w wr := Below.chg (w0 := w) HEB.out hch (fun b hb => by
              obtain rfl : b = T := by simpa using hb
              omega)
            have HXr := hid (Re.below HX.out hbel)
            have HBl := hid hbel
            have HTb := hid hT
            clear hT hrow hch hbel bR hbs
            by_cases hlt : k < n
            · obtain ⟨x, b1, o1, hxk, rfl, hb1, f0, f1, f2, f3, f4⟩ := at_Wlk HX.out hlt
              have hq : ∀ o, wr.cell? ⟨b1, o, none⟩ = w.cell? ⟨b1, o, none⟩ := fun o => World.cell?_of_block (a := ⟨b1, o, none⟩) (HBl.out.block b1 hb1)
              rw [← hq] at f0 f1 f2 f3 f4
              clear hq
              have lb1 : b1 < wr.heap.size := by omega
              have HK := hid hxk
              clear hxk
              by_cases hin : plcCell m x.at_ = cell
              · have HF := hid (filt_yes (p := homeIn m cell) HK.out (by simp [homeIn, hin]))
                have hlen : ((xs.take k).filter (homeIn m cell)).length ≤ 4194304 := by have := filt_len (homeIn m cell) xs k; omega
                obtain ⟨R, hRl, hRlo, hRne⟩ := rowX_R HG.out HGb.out hsz
                have HRl := hid hRl
                have hTR : T ≠ R := by omega
                have hRT : R ≠ T := by omega
                have hcR : wr.heap.size ≠ R := Ne.symm hRne
                have hMR : w.heap.size ≠ R := by omega
                have hbR : b1 ≠ R := by omega
                have dT : ∀ t, (ext wr.drew t).cell? ⟨T, 1, none⟩ = some v := fun t => (ext_cell' _ _ _ _ lT).trans cT1
                have dZ : ∀ t, (ext wr.drew t).frozen? ⟨T, 1, none⟩ = false := fun t => (ext_frozen' _ _ _ _ lT).trans zT
                clear hRl hRne
                try go_wp2_with (first
                    | (go_at_call 16; refine (iPlcCell_c _ _ _).mono ?_; rintro e w' ⟨rfl, t, rfl⟩) | (refine wpList_plain rfl (fun K hK => ?_); refine wp_appX (cells := Wlk.cells) (k := 5) (bytes := 40) (z := .agg #[.int .i64 0, .int .i64 0, .int .i64 0, .int .i64 0, .int .i64 0]) Try.underlying50 (by kernel_rfl) rfl (by decide) (by decide) (fun _ => rfl) (fun x u hu => by simp only [Wlk.cells, List.mem_cons, List.not_mem_nil, or_false] at hu; rcases hu with rfl | rfl | rfl | rfl | rfl <;> rfl) _ _ rfl rfl (HG.out.of zq0) x rfl (alloc_last (by (try simp [go_sem]) <;> (try simp [Xt.add]) <;> omega)) hlen ?_; intro v2 w2 R2 hr2 hc2 hR2; obtain ⟨sa, sc, e2⟩ := hr2.slice; rw [List.length_append, List.length_singleton] at e2; subst e2; have H2 := hid (row_two hr2 hR2 HGb.out (Nat.le_trans hsz (by (try simp [go_sem]) <;> (try simp [Xt.add]) <;> omega))); have hcR2 := hc2.mono (B' := [R]) (fun b hb => by rw [HRl.out b hb]; simp); have HC2 := hid hcR2; have l2 : T < w2.heap.size := Nat.lt_of_lt_of_le (by (try simp [go_sem]) <;> (try simp [Xt.add]) <;> omega) hcR2.size; have q2 : w2.cell? ⟨T, 1, none⟩ = some v := (hcR2.cell (by (try simp [go_sem]) <;> (try simp [Xt.add]) <;> omega) (by simp [hTR]) 1).trans (by simp [go_sem, cT1, lT, dT]); have b2 : w2.heap[T]? = some (.cells #[.int .i64 cell, v, .int .i64 0, .slice (some ⟨g3, 0, none⟩) 2 2, .slice (some ⟨g4, 0, none⟩) 2 2, .slice (some ⟨g5, 0, none⟩) 2 2] 64 (0, 0)) := (hcR2.block T (by (try simp [go_sem]) <;> (try simp [Xt.add]) <;> omega) (by simp [hTR])).trans (by repeat (first | with_reducible exact HTb.out | with_reducible apply blk_drew | with_reducible refine blk_set ?_ | (with_reducible refine blk_other ?_ (by first | assumption | omega)) | with_reducible refine blk_ext ?_ | with_reducible refine blk_alloc ?_)); have z2 : w2.frozen? ⟨T, 1, none⟩ = false := (Chg.frozen hcR2 (by (try simp [go_sem]) <;> (try simp [Xt.add]) <;> omega) (by simp [hTR]) 1).trans (by simp [go_sem, zT, lT, dZ]); have B2 := hid b2; clear hr2 hc2 b2 hcR2 hR2; refine hK _ _ ?_; clear hK K)
                    | (
                      with_reducible refine wp_region_mix (by kernel_rfl) (by decide +kernel) ?_
                      repeat (first
                        | (refine mix_pure rfl ?_; (first | go_big_quiet_skip | (go_big_quiet_want; go_big_quiet_op; go_big_quiet_on)); refine wpQuiet_nil ?_)
                        | (refine mix_skip (by rfl) ?_; (try simp only [Act.put, List.setIfInBounds_toArray, List.set_cons_zero, List.set_cons_succ]))
                        | (refine mix_mk rfl (by rfl) (fun K hK => ?_); (first | (go_simp; first | (go_at_call 16; refine (iPlcCell_c _ _ _).mono ?_; rintro e w' ⟨rfl, t, rfl⟩) | (refine wpList_plain rfl (fun K hK => ?_); refine wp_appX (cells := Wlk.cells) (k := 5) (bytes := 40) (z := .agg #[.int .i64 0, .int .i64 0, .int .i64 0, .int .i64 0, .int .i64 0]) Try.underlying50 (by kernel_rfl) rfl (by decide) (by decide) (fun _ => rfl) (fun x u hu => by simp only [Wlk.cells, List.mem_cons, List.not_mem_nil, or_false] at hu; rcases hu with rfl | rfl | rfl | rfl | rfl <;> rfl) _ _ rfl rfl (HG.out.of zq0) x rfl (alloc_last (by (try simp [go_sem]) <;> (try simp [Xt.add]) <;> omega)) hlen ?_; intro v2 w2 R2 hr2 hc2 hR2; obtain ⟨sa, sc, e2⟩ := hr2.slice; rw [List.length_append, List.length_singleton] at e2; subst e2; have H2 := hid (row_two hr2 hR2 HGb.out (Nat.le_trans hsz (by (try simp [go_sem]) <;> (try simp [Xt.add]) <;> omega))); have hcR2 := hc2.mono (B' := [R]) (fun b hb => by rw [HRl.out b hb]; simp); have HC2 := hid hcR2; have l2 : T < w2.heap.size := Nat.lt_of_lt_of_le (by (try simp [go_sem]) <;> (try simp [Xt.add]) <;> omega) hcR2.size; have q2 : w2.cell? ⟨T, 1, none⟩ = some v := (hcR2.cell (by (try simp [go_sem]) <;> (try simp [Xt.add]) <;> omega) (by simp [hTR]) 1).trans (by simp [go_sem, cT1, lT, dT]); have b2 : w2.heap[T]? = some (.cells #[.int .i64 cell, v, .int .i64 0, .slice (some ⟨g3, 0, none⟩) 2 2, .slice (some ⟨g4, 0, none⟩) 2 2, .slice (some ⟨g5, 0, none⟩) 2 2] 64 (0, 0)) := (hcR2.block T (by (try simp [go_sem]) <;> (try simp [Xt.add]) <;> omega) (by simp [hTR])).trans (by repeat (first | with_reducible exact HTb.out | with_reducible apply blk_drew | with_reducible refine blk_set ?_ | (with_reducible refine blk_other ?_ (by first | assumption | omega)) | with_reducible refine blk_ext ?_ | with_reducible refine blk_alloc ?_)); have z2 : w2.frozen? ⟨T, 1, none⟩ = false := (Chg.frozen hcR2 (by (try simp [go_sem]) <;> (try simp [Xt.add]) <;> omega) (by simp [hTR]) 1).trans (by simp [go_sem, zT, lT, dZ]); have B2 := hid b2; clear hr2 hc2 b2 hcR2 hR2; refine hK _ _ ?_; clear hK K) | skip)); (show K _ _); refine hK _ _ (show Ext _ _ from zq0) ?_; clear hK K; (try simp only [Act.put, List.setIfInBounds_toArray, List.set_cons_zero, List.set_cons_succ])))
                      refine mix_nil ?_)
                    | (
                      with_reducible refine wp_region_ext (by kernel_rfl) (by kernel_rfl) ?_
                      repeat (first | go_big_quiet_skip | (go_big_quiet_want; go_big_quiet_op; first | go_big_quiet_on | (apply Exists.intro; refine ⟨fun _ => ?_, ?_⟩; ((first | (go_at_call 16; first | exact quiet_call (iPlcCell_c _ _ _) | exact quiet_call2 (iPlcCell_c _ _ _)))); (try rw [h1]); (try rw [h2]); (try rw [h3]); (try rw [h4]); (try rw [p1]); (try rw [p2]); (try rw [p3]); (try rw [p4]); (try rw [r1]); (try rw [r2]); (try rw [r3]); (try rw [r4]); (try rw [r5]); (try rw [r6]); (try rw [q3]); (try rw [q4]); (try rw [hp]); (try rw [hq]); go_big_quiet_on)))
                      refine wpQuiet_nil ?_
                      rintro _ ⟨tq, rfl⟩))
                go_roundw
                case rel =>
                  obtain ⟨B', hE', hd'⟩ := H2.out
                  refine ⟨k + 1, _, B', by omega, by go_num, (by exact blk_set B2.out), ?_, hd', Chg.set (Chg.up (by repeat (first | with_reducible exact HC.out | with_reducible apply Chg.drew | with_reducible apply Chg.alloc | with_reducible apply Chg.ext)) HC2.out (by simp; omega)) (by simp) _⟩
                  rw [HF.out]
                  exact hE'.chg ((Chg.refl [T] w2).set (b := T) (by simp) _) (fun b hb hm => by
                    obtain rfl : b = T := by simpa using hm
                    have := hd' _ hb
                    omega)
                case measure => simp [intOf]; omega
              · have HF := hid (filt_no (p := homeIn m cell) HK.out (by simp [homeIn, hin]))
                try go_wp2_with (first
                    | (go_at_call 16; refine (iPlcCell_c _ _ _).mono ?_; rintro e w' ⟨rfl, t, rfl⟩)
                    | (
                      with_reducible refine wp_region_mix (by kernel_rfl) (by decide +kernel) ?_
                      repeat (first
                        | (refine mix_pure rfl ?_; (first | go_big_quiet_skip | (go_big_quiet_want; go_big_quiet_op; go_big_quiet_on)); refine wpQuiet_nil ?_)
                        | (refine mix_skip (by rfl) ?_; (try simp only [Act.put, List.setIfInBounds_toArray, List.set_cons_zero, List.set_cons_succ]))
                        | (refine mix_mk rfl (by rfl) (fun K hK => ?_); (first | (go_simp; first | (go_at_call 16; refine (iPlcCell_c _ _ _).mono ?_; rintro e w' ⟨rfl, t, rfl⟩) | skip)); (show K _ _); refine hK _ _ (show Ext _ _ from zq0) ?_; clear hK K; (try simp only [Act.put, List.setIfInBounds_toArray, List.set_cons_zero, List.set_cons_succ])))
                      refine mix_nil ?_)
                    | (
                      with_reducible refine wp_region_ext (by kernel_rfl) (by kernel_rfl) ?_
                      repeat (first | go_big_quiet_skip | (go_big_quiet_want; go_big_quiet_op; first | go_big_quiet_on | (apply Exists.intro; refine ⟨fun _ => ?_, ?_⟩; ((first | (go_at_call 16; first | exact quiet_call (iPlcCell_c _ _ _) | exact quiet_call2 (iPlcCell_c _ _ _)))); (try rw [h1]); (try rw [h2]); (try rw [h3]); (try rw [h4]); (try rw [p1]); (try rw [p2]); (try rw [p3]); (try rw [p4]); (try rw [r1]); (try rw [r2]); (try rw [r3]); (try rw [r4]); (try rw [r5]); (try rw [r6]); (try rw [q3]); (try rw [q4]); (try rw [hp]); (try rw [hq]); go_big_quiet_on)))
                      refine wpQuiet_nil ?_
                      rintro _ ⟨tq, rfl⟩))
                go_roundw
                case rel =>
                  refine ⟨k + 1, v, B, by omega, by go_num, (by exact (by repeat (first | with_reducible exact HTb.out | with_reducible apply blk_drew | with_reducible refine blk_set ?_ | (with_reducible refine blk_other ?_ (by first | assumption | omega)) | with_reducible refine blk_ext ?_ | with_reducible refine blk_alloc ?_))), ?_, HGb.out, (by repeat (first | with_reducible exact HC.out | with_reducible apply Chg.drew | with_reducible apply Chg.alloc | with_reducible apply Chg.ext))⟩
                  rw [HF.out]
                  exact HG.out.of zq0
                case measure => simp [intOf]; omega
            · have HE := hid (show xs.take k = xs from List.take_of_length_le (by rw [← HX.out.len]; omega))
              rw [HE.out] at HG
              obtain ⟨p1', q1', e3, hcx, hlo⟩ := cll_new_cx (cell := cell) (lo := w.heap.size + 2) HG.out HGb.out HC.out (by omega) HD.out.1 HD.out.2.1 HD.out.2.2.1 HD.out.2.2.2.1 HD.out.2.2.2.2.1 HD.out.2.2.2.2.2
              subst e3
              have HCX := hid hcx
              have HLO := hid hlo
              clear hcx hlo
              try go_wp2_with (first
                  | fail
                  | (
                    with_reducible refine wp_region_mix (by kernel_rfl) (by decide +kernel) ?_
                    repeat (first
                      | (refine mix_pure rfl ?_; (first | go_big_quiet_skip | (go_big_quiet_want; go_big_quiet_op; go_big_quiet_on)); refine wpQuiet_nil ?_)
                      | (refine mix_skip (by rfl) ?_; (try simp only [Act.put, List.setIfInBounds_toArray, List.set_cons_zero, List.set_cons_succ]))
                      | (refine mix_mk rfl (by rfl) (fun K hK => ?_); (first | (go_simp; first | skip)); (show K _ _); refine hK _ _ (show Ext _ _ from zq0) ?_; clear hK K; (try simp only [Act.put, List.setIfInBounds_toArray, List.set_cons_zero, List.set_cons_succ])))
                    refine mix_nil ?_)
                  | (
                    with_reducible refine wp_region_ext (by kernel_rfl) (by kernel_rfl) ?_
                    repeat (first | go_big_quiet_skip | (go_big_quiet_want; go_big_quiet_op; first | go_big_quiet_on | (apply Exists.intro; refine ⟨fun _ => ?_, ?_⟩; (fail); (try rw [h1]); (try rw [h2]); (try rw [h3]); (try rw [h4]); (try rw [p1]); (try rw [p2]); (try rw [p3]); (try rw [p4]); (try rw [r1]); (try rw [r2]); (try rw [r3]); (try rw [r4]); (try rw [r5]); (try rw [r6]); (try rw [q3]); (try rw [q4]); (try rw [hp]); (try rw [hq]); go_big_quiet_on)))
                    refine wpQuiet_nil ?_
                    rintro _ ⟨tq, rfl⟩))
              generalize hne : (xs.filter (homeIn m cell)).length = nw at *
              refine bodyPost_ret (v := .agg #[.int .i64 cell, .slice p1' nw q1', .int .i64 0, .slice (some ⟨g3, 0, none⟩) 2 2, .slice (some ⟨g4, 0, none⟩) 2 2, .slice (some ⟨g5, 0, none⟩) 2 2]) (by simp [results, Try.results42, go_sem, cT0, cT1, cT2, cT3, cT4, cT5, cR0, cR1, cR2, cR3, cR4, cR5, lR, lT]) rfl ?_
              rw [EV.out]
              subst hne
              exact ⟨⟨p1', q1', _, _, _, _, _, _⟩, rfl, Ext.of_below (Below.chg (w0 := w) HBl.out (B := [w.heap.size + 1]) zq1 (by simp)), (HCX.out.chg (B' := [w.heap.size + 1]) zq1 (fun b hb => by have := HLO.out b hb; simp; omega)).own (fun b hb => by have := HLO.out b hb; omega)⟩
end Go.Proofs.Ytbbpipbemhggdaa

namespace Go.Proofs.Ytbbpipbemhggdaa
open Go.RowKit
set_option linter.unusedSimpArgs false
set_option linter.unusedVariables false

theorem adj_pairwise {α : Type} {r : α → α → Prop} (ht : ∀ a b c, r a b → r b c → r a c) {xs : List α} (h : ∀ (i : Nat) (x y : α), xs[i]? = some x → xs[i + 1]? = some y → r x y) : xs.Pairwise r := by
  rw [List.pairwise_iff_getElem]
  intro i j hi hj hij
  obtain ⟨d, rfl⟩ : ∃ d, j = i + 1 + d := ⟨j - i - 1, by omega⟩
  induction d with
  | zero => exact h i _ _ (List.getElem?_eq_getElem hi) (List.getElem?_eq_getElem hj)
  | succ d ih => exact ht _ _ _ (ih (by omega) (by omega)) (h (i + 1 + d) _ _ (List.getElem?_eq_getElem (by omega)) (List.getElem?_eq_getElem hj))
def Asc (xs : List Wlk) : Prop := xs.Pairwise (fun a b => a.id < b.id)
theorem wlkAll_iff {m : Mp} {xs : List Wlk} : wlkAll m xs = true ↔ (∀ x ∈ xs, wlkOk m x = true) ∧ Asc xs := by
  unfold wlkAll
  rw [allI_iff]
  constructor
  · intro h
    refine ⟨fun x hx => ?_, adj_pairwise (r := fun a b : Wlk => a.id < b.id) (fun a b c h1 h2 => Int.lt_trans h1 h2) fun i x y hx hy => ?_⟩
    · obtain ⟨k, hk⟩ := List.getElem?_of_mem hx
      have := h k x hk
      simp only [wlkAt, Bool.and_eq_true] at this
      exact this.1
    · have := h (i + 1) y hy
      simp only [wlkAt, Bool.and_eq_true, Nat.zero_add] at this
      rw [ordAt_succ hx] at this
      simpa using this.2
  · rintro ⟨h1, h2⟩ k x hx
    simp only [wlkAt, Bool.and_eq_true, Nat.zero_add]
    refine ⟨h1 x (List.mem_of_getElem? hx), ?_⟩
    cases k with
    | zero => rfl
    | succ k =>
      obtain ⟨y, hy⟩ : ∃ y, xs[k]? = some y := ⟨_, List.getElem?_eq_getElem (by have := (List.getElem?_eq_some_iff.1 hx).1; omega)⟩
      rw [ordAt_succ hy, decide_eq_true_eq]
      obtain ⟨hk, rfl⟩ := List.getElem?_eq_some_iff.1 hx
      obtain ⟨hk', rfl⟩ := List.getElem?_eq_some_iff.1 hy
      exact List.pairwise_iff_getElem.1 h2 k (k + 1) hk' hk (by omega)
theorem home_iff {m : Mp} {c : Int} {xs : List Wlk} : allI (inCell m c) 0 xs = true ↔ ∀ x ∈ xs, plcCell m x.at_ = c := by
  rw [allI_iff]
  constructor
  · intro h x hx
    obtain ⟨k, hk⟩ := List.getElem?_of_mem hx
    simpa [inCell] using h k x hk
  · intro h k x hx
    simpa [inCell] using h x (List.mem_of_getElem? hx)
theorem cllNew_ok {m : Mp} {cell : Int} {xs : List Wlk} (h : newOk m cell xs = true) : cllOk m (cllNew m cell xs) = true := by
  have e : cllNew m cell xs = ⟨cell, xs.filter (homeIn m cell), 0, [[], []], [0, 0], [0, 0]⟩ := by rw [cllNew, h]; rfl
  simp only [newOk, Bool.and_eq_true] at h
  obtain ⟨⟨h1, h2⟩, h3⟩ := h
  obtain ⟨g1, g2⟩ := wlkAll_iff.1 h1
  rw [e]
  refine cllOk_true (cllHead_iff.2 ⟨h2, h3, wlkAll_iff.2 ⟨fun x hx => g1 x (List.mem_filter.1 hx).1, List.Pairwise.filter _ g2⟩, rfl, rfl, rfl, rfl⟩) ?_ fun j hj => ?_
  · refine home_iff.2 fun x hx => ?_
    simpa [homeIn] using (List.mem_filter.1 hx).2
  · match j, hj with
    | 0, _ => rw [sideAt_eq (o := []) (n := 0) (i := 0) rfl rfl rfl]; simp [sideOk, pclListOk, h2, inB, allI]
    | 1, _ => rw [sideAt_eq (o := []) (n := 0) (i := 0) rfl rfl rfl]; simp [sideOk, pclListOk, h2, inB, allI]
end Go.Proofs.Ytbbpipbemhggdaa

