/- Packed texts: CllDo, SegU, CllDs, CllDg, CllDt, Cdk, CllDc, CllPo, CllSa, CllSs, CllSg -/
import Derived.Test.YtablgohncilmfaaZD3
import Derived.Test.YtablgohncilmfaaZD1
namespace Go.Proofs.Ytablgohncilmfaa
open Go.RowKit
set_option linter.unusedSimpArgs false
set_option linter.unusedVariables false

def DoR (w : World) (T : Nat) (B1 B3 B4 B5 : List Nat) (v : Cll) (code : Int) (e : Ending) (w' : World) : Prop :=
  ∃ (h' : CllH) (B1' B3' : List Nat), e = .returned (.int .i64 code) ∧ w'.heap[T]? = some (.cells #[.int .i64 v.cell, .slice h'.a1 v.wk.length h'.c1, .int .i64 v.ground, .slice h'.a3 v.outs.length h'.c3, .slice h'.a4 v.next.length h'.c4, .slice h'.a5 v.ins.length h'.c5] 37 (0, 0)) ∧ CX w' v h' B1' B3' B4 B5 ∧ Chg (T :: (B1 ++ (B3 ++ B4))) w w' ∧ ∀ b ∈ B1' ++ B3', b ∈ B1 ++ B3 ∨ w.heap.size ≤ b
set_option maxRecDepth 100000 in
set_option maxHeartbeats 8000000 in
theorem do_old (m : Mp) (c : Cll) (h : CllH) (T : Nat) (o : Ord) (B1 B3 B4 B5 : List Nat) (w : World) (k : Nat) (y : Wlk)
    (hT : w.heap[T]? = some (.cells #[.int .i64 c.cell, .slice h.a1 c.wk.length h.c1, .int .i64 c.ground, .slice h.a3 c.outs.length h.c3, .slice h.a4 c.next.length h.c4, .slice h.a5 c.ins.length h.c5] 37 (0, 0))) (hx : CX w c h B1 B3 B4 B5) (hTB : T ∉ B1 ++ (B3 ++ (B4 ++ B5))) (F : CllF m c) (ho : ordOk o = true) (hl : c.wk.length ≤ 1048576)
    (hy : c.wk[k]? = some y) (hid' : y.id = o.who) (hs : o.seq ≤ y.seq) :
    Calls Try.prog 67 #[.pointer (some ⟨T, 0, none⟩), .agg #[.int .i64 m.c, .int .i64 m.w], .agg #[.int .i64 o.who, .int .i64 o.seq, .int .i64 o.kind, .int .i64 o.to_, .int .i64 o.n]] w (DoR w T B1 B3 B4 B5 (iDo m c o).1 (iDo m c o).2) := by
  obtain ⟨a1, c1, a3, c3, a4, c4, a5, c5⟩ := h
  obtain ⟨g, rfl⟩ : ∃ g, a1 = some (⟨g, 0, none⟩ : Addr) := by
    obtain ⟨g, cur, y, e1, _⟩ := hx.x1.at (k := 5) (by decide) (fun _ => rfl) (List.getElem?_eq_some_iff.1 hy).1
    exact ⟨g, e1⟩
  obtain ⟨rfl, lg, hk, hyc, hfr⟩ := hx.wkAt hy
  have hTg : T ≠ g := fun e => hTB (by simp [e])
  have hgT : g ≠ T := Ne.symm hTg
  have HTB := hid hTB
  have HX := hid hx
  have HRe := hid hx.re.r1
  have HY := hid hy
  have HT := hid hT
  have HF := hid F
  have lT := lt_blk hT
  have cT0 : w.cell? ⟨T, 0, none⟩ = some (.int .i64 c.cell) := (cell_blk hT 0).trans rfl
  have cT1 : w.cell? ⟨T, 1, none⟩ = some (.slice (some ⟨g, 0, none⟩) c.wk.length c1) := (cell_blk hT 1).trans rfl
  have cT2 : w.cell? ⟨T, 2, none⟩ = some (.int .i64 c.ground) := (cell_blk hT 2).trans rfl
  have zT1 := frozen_blk hT 1
  have zT2 := frozen_blk hT 2
  have x0 := hyc 0 _ rfl
  have x1 := hyc 1 _ rfl
  have x2 := hyc 2 _ rfl
  have x3 := hyc 3 _ rfl
  have x4 := hyc 4 _ rfl
  rw [Nat.add_zero] at x0
  have z1 := hfr (k * 5 + 1)
  have z2 := hfr (k * 5 + 2)
  have z3 := hfr (k * 5 + 3)
  have z4 := hfr (k * 5 + 4)
  obtain ⟨g1, g2, g3⟩ := get_at F.asc hy
  rw [hid'] at g1 g2 g3
  have hlen := hx.x1.max
  simp only [maxLen] at hlen
  have H1 : wlkPlace c.wk o.who = (k : Int) := g3
  obtain ⟨⟨ya0, ya1⟩, ⟨yi0, yi1⟩, ⟨yc0, yc1⟩, ⟨ys0, ys1⟩, yl0, yl1⟩ := wlk_bd (F.wk y (List.mem_of_getElem? hy))
  have p1 : decide ((k : Int) < 0) = false := by simp
  by_cases t1 : o.seq < y.seq
  · have E := hid (show iDo m c o = (c, 8) by simp only [iDo, g1, g2, Bool.true_eq_false, if_false, t1, if_true])
    rw [E.out]
    clear g1 g2 g3 hT hx hTB hyc hfr hy F
    go_enter Try.func67, Try.ntmps67
    try go_wp2_with (first
        | (go_at_call 86; refine (place_c _ _ _ _ _ _ (Re.of (Hid.out (by assumption)) zq0) (by omega)).mono ?_; rintro e w' ⟨rfl, t, rfl⟩)
        | (
          with_reducible refine wp_region_mix (by kernel_rfl) (by decide +kernel) ?_
          repeat (first
            | (refine mix_pure rfl ?_; (first | go_big_quiet_skip | (go_big_quiet_want; go_big_quiet_op; go_big_quiet_on)); refine wpQuiet_nil ?_)
            | (refine mix_skip (by rfl) ?_; (try simp only [Act.put, List.setIfInBounds_toArray, List.set_cons_zero, List.set_cons_succ]))
            | (refine mix_mk rfl (by rfl) (fun K hK => ?_); (first | (go_simp; first | (go_at_call 86; refine (place_c _ _ _ _ _ _ (Re.of (Hid.out (by assumption)) zq0) (by omega)).mono ?_; rintro e w' ⟨rfl, t, rfl⟩) | skip)); (show K _ _); refine hK _ _ (show Ext _ _ from zq0) ?_; clear hK K; (try simp only [Act.put, List.setIfInBounds_toArray, List.set_cons_zero, List.set_cons_succ])))
          refine mix_nil ?_)
        | (
          with_reducible refine wp_region_ext (by kernel_rfl) (by kernel_rfl) ?_
          repeat (first | go_big_quiet_skip | (go_big_quiet_want; go_big_quiet_op; first | go_big_quiet_on | (apply Exists.intro; refine ⟨fun _ => ?_, ?_⟩; ((first | (go_at_call 86; first | exact quiet_call (place_c _ _ _ _ _ _ (Re.of (Hid.out (by assumption)) zq0) (by omega)) | exact quiet_call2 (place_c _ _ _ _ _ _ (Re.of (Hid.out (by assumption)) zq0) (by omega))))); (try rw [h1]); (try rw [h2]); (try rw [h3]); (try rw [h4]); (try rw [p1]); (try rw [p2]); (try rw [p3]); (try rw [p4]); (try rw [r1]); (try rw [r2]); (try rw [r3]); (try rw [r4]); (try rw [r5]); (try rw [r6]); (try rw [q3]); (try rw [q4]); (try rw [hp]); (try rw [hq]); go_big_quiet_on)))
          refine wpQuiet_nil ?_
          rintro _ ⟨tq, rfl⟩))
    go_ret
    exact ⟨⟨some ⟨g, 0, none⟩, c1, a3, c3, a4, c4, a5, c5⟩, [g], B3, rfl, (by repeat (first | with_reducible exact HT.out | with_reducible apply blk_drew | with_reducible refine blk_set ?_ | (with_reducible refine blk_other ?_ (by first | assumption | omega)) | with_reducible refine blk_ext ?_ | with_reducible refine blk_alloc ?_)), HX.out.of zq0, Chg.of_ext zq0 _, fun b hb => .inl hb⟩
  · have t2 : o.seq = y.seq := by omega
    have E := hid (show iDo m c o = (c, y.last) by simp only [iDo, g1, g2, Bool.true_eq_false, if_false, t1, t2, if_true, Int.lt_irrefl])
    rw [E.out]
    have t3 : (o.seq == y.seq) = true := by simpa using t2
    clear g1 g2 g3 hT hx hTB hyc hfr hy F t2
    go_enter Try.func67, Try.ntmps67
    try go_wp2_with (first
        | (go_at_call 86; refine (place_c _ _ _ _ _ _ (Re.of (Hid.out (by assumption)) zq0) (by omega)).mono ?_; rintro e w' ⟨rfl, t, rfl⟩)
        | (
          with_reducible refine wp_region_mix (by kernel_rfl) (by decide +kernel) ?_
          repeat (first
            | (refine mix_pure rfl ?_; (first | go_big_quiet_skip | (go_big_quiet_want; go_big_quiet_op; go_big_quiet_on)); refine wpQuiet_nil ?_)
            | (refine mix_skip (by rfl) ?_; (try simp only [Act.put, List.setIfInBounds_toArray, List.set_cons_zero, List.set_cons_succ]))
            | (refine mix_mk rfl (by rfl) (fun K hK => ?_); (first | (go_simp; first | (go_at_call 86; refine (place_c _ _ _ _ _ _ (Re.of (Hid.out (by assumption)) zq0) (by omega)).mono ?_; rintro e w' ⟨rfl, t, rfl⟩) | skip)); (show K _ _); refine hK _ _ (show Ext _ _ from zq0) ?_; clear hK K; (try simp only [Act.put, List.setIfInBounds_toArray, List.set_cons_zero, List.set_cons_succ])))
          refine mix_nil ?_)
        | (
          with_reducible refine wp_region_ext (by kernel_rfl) (by kernel_rfl) ?_
          repeat (first | go_big_quiet_skip | (go_big_quiet_want; go_big_quiet_op; first | go_big_quiet_on | (apply Exists.intro; refine ⟨fun _ => ?_, ?_⟩; ((first | (go_at_call 86; first | exact quiet_call (place_c _ _ _ _ _ _ (Re.of (Hid.out (by assumption)) zq0) (by omega)) | exact quiet_call2 (place_c _ _ _ _ _ _ (Re.of (Hid.out (by assumption)) zq0) (by omega))))); (try rw [h1]); (try rw [h2]); (try rw [h3]); (try rw [h4]); (try rw [p1]); (try rw [p2]); (try rw [p3]); (try rw [p4]); (try rw [r1]); (try rw [r2]); (try rw [r3]); (try rw [r4]); (try rw [r5]); (try rw [r6]); (try rw [q3]); (try rw [q4]); (try rw [hp]); (try rw [hq]); go_big_quiet_on)))
          refine wpQuiet_nil ?_
          rintro _ ⟨tq, rfl⟩))
    go_ret
    exact ⟨⟨some ⟨g, 0, none⟩, c1, a3, c3, a4, c4, a5, c5⟩, [g], B3, rfl, (by repeat (first | with_reducible exact HT.out | with_reducible apply blk_drew | with_reducible refine blk_set ?_ | (with_reducible refine blk_other ?_ (by first | assumption | omega)) | with_reducible refine blk_ext ?_ | with_reducible refine blk_alloc ?_)), HX.out.of zq0, Chg.of_ext zq0 _, fun b hb => .inl hb⟩
set_option maxRecDepth 100000 in
set_option maxHeartbeats 8000000 in
theorem do_away (m : Mp) (c : Cll) (h : CllH) (T : Nat) (o : Ord) (B1 B3 B4 B5 : List Nat) (w : World)
    (hT : w.heap[T]? = some (.cells #[.int .i64 c.cell, .slice h.a1 c.wk.length h.c1, .int .i64 c.ground, .slice h.a3 c.outs.length h.c3, .slice h.a4 c.next.length h.c4, .slice h.a5 c.ins.length h.c5] 37 (0, 0))) (hx : CX w c h B1 B3 B4 B5) (hl : c.wk.length ≤ 1048576) (hn : ∀ x ∈ c.wk, x.id ≠ o.who) :
    Calls Try.prog 67 #[.pointer (some ⟨T, 0, none⟩), .agg #[.int .i64 m.c, .int .i64 m.w], .agg #[.int .i64 o.who, .int .i64 o.seq, .int .i64 o.kind, .int .i64 o.to_, .int .i64 o.n]] w (DoR w T B1 B3 B4 B5 (iDo m c o).1 (iDo m c o).2) := by
  obtain ⟨a1, c1, a3, c3, a4, c4, a5, c5⟩ := h
  have HX := hid hx
  have HRe := hid hx.re.r1
  have HT := hid hT
  have lT := lt_blk hT
  have cT1 : w.cell? ⟨T, 1, none⟩ = some (.slice a1 c.wk.length c1) := (cell_blk hT 1).trans rfl
  have H1 : wlkPlace c.wk o.who = -1 := (get_no hn).2.2
  have E := hid (show iDo m c o = (c, 9) by simp only [iDo, (get_no hn).2.1, if_true])
  rw [E.out]
  clear hT hx hn
  go_enter Try.func67, Try.ntmps67
  try go_wp2_with (first
      | (go_at_call 86; refine (place_c _ _ _ _ _ _ (Re.of (Hid.out (by assumption)) zq0) (by omega)).mono ?_; rintro e w' ⟨rfl, t, rfl⟩)
      | (
        with_reducible refine wp_region_mix (by kernel_rfl) (by decide +kernel) ?_
        repeat (first
          | (refine mix_pure rfl ?_; (first | go_big_quiet_skip | (go_big_quiet_want; go_big_quiet_op; go_big_quiet_on)); refine wpQuiet_nil ?_)
          | (refine mix_skip (by rfl) ?_; (try simp only [Act.put, List.setIfInBounds_toArray, List.set_cons_zero, List.set_cons_succ]))
          | (refine mix_mk rfl (by rfl) (fun K hK => ?_); (first | (go_simp; first | (go_at_call 86; refine (place_c _ _ _ _ _ _ (Re.of (Hid.out (by assumption)) zq0) (by omega)).mono ?_; rintro e w' ⟨rfl, t, rfl⟩) | skip)); (show K _ _); refine hK _ _ (show Ext _ _ from zq0) ?_; clear hK K; (try simp only [Act.put, List.setIfInBounds_toArray, List.set_cons_zero, List.set_cons_succ])))
        refine mix_nil ?_)
      | (
        with_reducible refine wp_region_ext (by kernel_rfl) (by kernel_rfl) ?_
        repeat (first | go_big_quiet_skip | (go_big_quiet_want; go_big_quiet_op; first | go_big_quiet_on | (apply Exists.intro; refine ⟨fun _ => ?_, ?_⟩; ((first | (go_at_call 86; first | exact quiet_call (place_c _ _ _ _ _ _ (Re.of (Hid.out (by assumption)) zq0) (by omega)) | exact quiet_call2 (place_c _ _ _ _ _ _ (Re.of (Hid.out (by assumption)) zq0) (by omega))))); (try rw [h1]); (try rw [h2]); (try rw [h3]); (try rw [h4]); (try rw [p1]); (try rw [p2]); (try rw [p3]); (try rw [p4]); (try rw [r1]); (try rw [r2]); (try rw [r3]); (try rw [r4]); (try rw [r5]); (try rw [r6]); (try rw [q3]); (try rw [q4]); (try rw [hp]); (try rw [hq]); go_big_quiet_on)))
        refine wpQuiet_nil ?_
        rintro _ ⟨tq, rfl⟩))
  go_ret
  exact ⟨⟨a1, c1, a3, c3, a4, c4, a5, c5⟩, B1, B3, rfl, (by repeat (first | with_reducible exact HT.out | with_reducible apply blk_drew | with_reducible refine blk_set ?_ | (with_reducible refine blk_other ?_ (by first | assumption | omega)) | with_reducible refine blk_ext ?_ | with_reducible refine blk_alloc ?_)), HX.out.of zq0, Chg.of_ext zq0 _, fun b hb => .inl hb⟩
set_option maxRecDepth 100000 in
set_option maxHeartbeats 8000000 in
theorem do_rest (m : Mp) (c : Cll) (h : CllH) (T : Nat) (o : Ord) (B1 B3 B4 B5 : List Nat) (w : World) (k : Nat) (y : Wlk)
    (hT : w.heap[T]? = some (.cells #[.int .i64 c.cell, .slice h.a1 c.wk.length h.c1, .int .i64 c.ground, .slice h.a3 c.outs.length h.c3, .slice h.a4 c.next.length h.c4, .slice h.a5 c.ins.length h.c5] 37 (0, 0))) (hx : CX w c h B1 B3 B4 B5) (hTB : T ∉ B1 ++ (B3 ++ (B4 ++ B5))) (F : CllF m c) (ho : ordOk o = true) (hl : c.wk.length ≤ 1048576)
    (hy : c.wk[k]? = some y) (hid' : y.id = o.who) (hs : y.seq < o.seq) (hkk : o.kind = 6) :
    Calls Try.prog 67 #[.pointer (some ⟨T, 0, none⟩), .agg #[.int .i64 m.c, .int .i64 m.w], .agg #[.int .i64 o.who, .int .i64 o.seq, .int .i64 o.kind, .int .i64 o.to_, .int .i64 o.n]] w (DoR w T B1 B3 B4 B5 (iDo m c o).1 (iDo m c o).2) := by
  obtain ⟨a1, c1, a3, c3, a4, c4, a5, c5⟩ := h
  obtain ⟨g, rfl⟩ : ∃ g, a1 = some (⟨g, 0, none⟩ : Addr) := by
    obtain ⟨g, cur, y, e1, _⟩ := hx.x1.at (k := 5) (by decide) (fun _ => rfl) (List.getElem?_eq_some_iff.1 hy).1
    exact ⟨g, e1⟩
  obtain ⟨rfl, lg, hk, hyc, hfr⟩ := hx.wkAt hy
  have hTg : T ≠ g := fun e => hTB (by simp [e])
  have hgT : g ≠ T := Ne.symm hTg
  have HTB := hid hTB
  have HX := hid hx
  have HRe := hid hx.re.r1
  have HY := hid hy
  have HT := hid hT
  have HF := hid F
  have lT := lt_blk hT
  have cT0 : w.cell? ⟨T, 0, none⟩ = some (.int .i64 c.cell) := (cell_blk hT 0).trans rfl
  have cT1 : w.cell? ⟨T, 1, none⟩ = some (.slice (some ⟨g, 0, none⟩) c.wk.length c1) := (cell_blk hT 1).trans rfl
  have cT2 : w.cell? ⟨T, 2, none⟩ = some (.int .i64 c.ground) := (cell_blk hT 2).trans rfl
  have zT1 := frozen_blk hT 1
  have zT2 := frozen_blk hT 2
  have x0 := hyc 0 _ rfl
  have x1 := hyc 1 _ rfl
  have x2 := hyc 2 _ rfl
  have x3 := hyc 3 _ rfl
  have x4 := hyc 4 _ rfl
  rw [Nat.add_zero] at x0
  have z1 := hfr (k * 5 + 1)
  have z2 := hfr (k * 5 + 2)
  have z3 := hfr (k * 5 + 3)
  have z4 := hfr (k * 5 + 4)
  obtain ⟨g1, g2, g3⟩ := get_at F.asc hy
  rw [hid'] at g1 g2 g3
  have hlen := hx.x1.max
  simp only [maxLen] at hlen
  have H1 : wlkPlace c.wk o.who = (k : Int) := g3
  obtain ⟨⟨ya0, ya1⟩, ⟨yi0, yi1⟩, ⟨yc0, yc1⟩, ⟨ys0, ys1⟩, yl0, yl1⟩ := wlk_bd (F.wk y (List.mem_of_getElem? hy))
  have p1 : decide ((k : Int) < 0) = false := by simp
  have t1 : ¬ o.seq < y.seq := by omega
  have t2 : ¬ o.seq = y.seq := by omega
  have t3 : (o.seq == y.seq) = false := by simpa using t2
  have E := hid (show iDo m c o = iLast c k { y with seq := o.seq } 1 by simp [iDo, g1, g2, g3, t1, t2, iKind, hkk])
  rw [E.out]
  have q1 : (o.kind == 1) = false := by rw [hkk]; rfl
  have q2 : (o.kind == 2) = false := by rw [hkk]; rfl
  have q3 : (o.kind == 3) = false := by rw [hkk]; rfl
  have q4 : (o.kind == 4) = false := by rw [hkk]; rfl
  have q5 : (o.kind == 5) = false := by rw [hkk]; rfl
  clear g1 g2 g3 hT hx hTB hyc hfr hy F t2 hkk
  go_enter Try.func67, Try.ntmps67
  go_wp2_with (fail)
  with_reducible refine wp_region_ext (by kernel_rfl) (by kernel_rfl) ?_
  repeat (go_big_quiet_step ((first | (go_at_call 86; first | exact quiet_call (place_c _ _ _ _ _ _ (Re.of (Hid.out (by assumption)) zq0) (by omega)) | exact quiet_call2 (place_c _ _ _ _ _ _ (Re.of (Hid.out (by assumption)) zq0) (by omega))))))
  refine wpQuiet_nil ?_
  rintro _ ⟨tq, rfl⟩
  go_wp2_with (fail)
  with_reducible refine wp_region_ext (by kernel_rfl) (by kernel_rfl) ?_
  repeat (go_big_quiet_step (fail))
  refine wpQuiet_nil ?_
  rintro _ ⟨tq, rfl⟩
  go_wp2_with (fail)
  with_reducible refine wp_region_ext (by kernel_rfl) (by kernel_rfl) ?_
  repeat (go_big_quiet_step (fail))
  refine wpQuiet_nil ?_
  rintro _ ⟨tq, rfl⟩
  go_wp2_with (fail)
  go_ret
  have r1 := HX.out.wkSet HY.out 3 (.int .i64 o.seq) (y' := { y with seq := o.seq }) (by decide) rfl
  have r2 := r1.wkSet2 hk 4 (.int .i64 1) (y' := { y with seq := o.seq, last := 1 }) (by decide) rfl
  refine ⟨⟨some ⟨g, 0, none⟩, c1, a3, c3, a4, c4, a5, c5⟩, [g], B3, rfl, ?_, r2.of zq0, ?_, fun b hb => .inl hb⟩
  · simp only [iLast, setC, List.length_set]; exact (by repeat (first | with_reducible exact HT.out | with_reducible apply blk_drew | with_reducible refine blk_set ?_ | (with_reducible refine blk_other ?_ (by first | assumption | omega)) | with_reducible refine blk_ext ?_ | with_reducible refine blk_alloc ?_))
  · exact zq1
set_option maxRecDepth 100000 in
set_option maxHeartbeats 8000000 in
theorem do_drop (m : Mp) (c : Cll) (h : CllH) (T : Nat) (o : Ord) (B1 B3 B4 B5 : List Nat) (w : World) (k : Nat) (y : Wlk)
    (hT : w.heap[T]? = some (.cells #[.int .i64 c.cell, .slice h.a1 c.wk.length h.c1, .int .i64 c.ground, .slice h.a3 c.outs.length h.c3, .slice h.a4 c.next.length h.c4, .slice h.a5 c.ins.length h.c5] 37 (0, 0))) (hx : CX w c h B1 B3 B4 B5) (hTB : T ∉ B1 ++ (B3 ++ (B4 ++ B5))) (F : CllF m c) (ho : ordOk o = true) (hl : c.wk.length ≤ 1048576)
    (hy : c.wk[k]? = some y) (hid' : y.id = o.who) (hs : y.seq < o.seq) (hkk : o.kind = 3) :
    Calls Try.prog 67 #[.pointer (some ⟨T, 0, none⟩), .agg #[.int .i64 m.c, .int .i64 m.w], .agg #[.int .i64 o.who, .int .i64 o.seq, .int .i64 o.kind, .int .i64 o.to_, .int .i64 o.n]] w (DoR w T B1 B3 B4 B5 (iDo m c o).1 (iDo m c o).2) := by
  obtain ⟨a1, c1, a3, c3, a4, c4, a5, c5⟩ := h
  obtain ⟨g, rfl⟩ : ∃ g, a1 = some (⟨g, 0, none⟩ : Addr) := by
    obtain ⟨g, cur, y, e1, _⟩ := hx.x1.at (k := 5) (by decide) (fun _ => rfl) (List.getElem?_eq_some_iff.1 hy).1
    exact ⟨g, e1⟩
  obtain ⟨rfl, lg, hk, hyc, hfr⟩ := hx.wkAt hy
  have hTg : T ≠ g := fun e => hTB (by simp [e])
  have hgT : g ≠ T := Ne.symm hTg
  have HTB := hid hTB
  have HX := hid hx
  have HRe := hid hx.re.r1
  have HY := hid hy
  have HT := hid hT
  have HF := hid F
  have lT := lt_blk hT
  have cT0 : w.cell? ⟨T, 0, none⟩ = some (.int .i64 c.cell) := (cell_blk hT 0).trans rfl
  have cT1 : w.cell? ⟨T, 1, none⟩ = some (.slice (some ⟨g, 0, none⟩) c.wk.length c1) := (cell_blk hT 1).trans rfl
  have cT2 : w.cell? ⟨T, 2, none⟩ = some (.int .i64 c.ground) := (cell_blk hT 2).trans rfl
  have zT1 := frozen_blk hT 1
  have zT2 := frozen_blk hT 2
  have x0 := hyc 0 _ rfl
  have x1 := hyc 1 _ rfl
  have x2 := hyc 2 _ rfl
  have x3 := hyc 3 _ rfl
  have x4 := hyc 4 _ rfl
  rw [Nat.add_zero] at x0
  have z1 := hfr (k * 5 + 1)
  have z2 := hfr (k * 5 + 2)
  have z3 := hfr (k * 5 + 3)
  have z4 := hfr (k * 5 + 4)
  obtain ⟨g1, g2, g3⟩ := get_at F.asc hy
  rw [hid'] at g1 g2 g3
  have hlen := hx.x1.max
  simp only [maxLen] at hlen
  have H1 : wlkPlace c.wk o.who = (k : Int) := g3
  obtain ⟨⟨ya0, ya1⟩, ⟨yi0, yi1⟩, ⟨yc0, yc1⟩, ⟨ys0, ys1⟩, yl0, yl1⟩ := wlk_bd (F.wk y (List.mem_of_getElem? hy))
  have p1 : decide ((k : Int) < 0) = false := by simp
  obtain ⟨_, ⟨os0, os1⟩, _, ok1, ok2, ok5, ⟨on0, on1⟩, onp⟩ := ord_bd ho
  have t1 : ¬ o.seq < y.seq := by omega
  have t2 : ¬ o.seq = y.seq := by omega
  have t3 : (o.seq == y.seq) = false := by simpa using t2
  have n1 := onp (by omega) (by omega)
  have hgr := F.gr
  have EK := hid (show iDo m c o = iDrop c k { y with seq := o.seq } o.n by simp [iDo, g1, g2, g3, t1, t2, iKind, hkk])
  have q1 : (o.kind == 1) = false := by rw [hkk]; rfl
  have q2 : (o.kind == 2) = false := by rw [hkk]; rfl
  have q3 : (o.kind == 3) = true := by rw [hkk]; rfl
  clear g1 g2 g3 hT hx hTB hyc hfr hy F t2 ok1 ok2 ok5 onp hkk
  by_cases u1 : y.coins < o.n
  · have E := hid (show iDo m c o = iLast c k { y with seq := o.seq } 3 by rw [EK.out]; simp only [iDrop, u1, if_true])
    rw [E.out]
    go_enter Try.func67, Try.ntmps67
    go_wp2_with (fail)
    with_reducible refine wp_region_ext (by kernel_rfl) (by kernel_rfl) ?_
    repeat (go_big_quiet_step ((first | (go_at_call 86; first | exact quiet_call (place_c _ _ _ _ _ _ (Re.of (Hid.out (by assumption)) zq0) (by omega)) | exact quiet_call2 (place_c _ _ _ _ _ _ (Re.of (Hid.out (by assumption)) zq0) (by omega))))))
    refine wpQuiet_nil ?_
    rintro _ ⟨tq, rfl⟩
    go_wp2_with (fail)
    with_reducible refine wp_region_ext (by kernel_rfl) (by kernel_rfl) ?_
    repeat (go_big_quiet_step (fail))
    refine wpQuiet_nil ?_
    rintro _ ⟨tq, rfl⟩
    go_wp2_with (fail)
    with_reducible refine wp_region_ext (by kernel_rfl) (by kernel_rfl) ?_
    repeat (go_big_quiet_step (fail))
    refine wpQuiet_nil ?_
    rintro _ ⟨tq, rfl⟩
    go_wp2_with (fail)
    with_reducible refine wp_region_ext (by kernel_rfl) (by kernel_rfl) ?_
    repeat (go_big_quiet_step (fail))
    refine wpQuiet_nil ?_
    rintro _ ⟨tq, rfl⟩
    go_wp2_with (fail)
    go_ret
    have r1 := HX.out.wkSet HY.out 3 (.int .i64 o.seq) (y' := { y with seq := o.seq }) (by decide) rfl
    have r2 := r1.wkSet2 hk 4 (.int .i64 3) (y' := { y with seq := o.seq, last := 3 }) (by decide) rfl
    refine ⟨⟨some ⟨g, 0, none⟩, c1, a3, c3, a4, c4, a5, c5⟩, [g], B3, rfl, ?_, r2.of zq0, zq1, fun b hb => .inl hb⟩
    simp only [iLast, setC, List.length_set]; exact (by repeat (first | with_reducible exact HT.out | with_reducible apply blk_drew | with_reducible refine blk_set ?_ | (with_reducible refine blk_other ?_ (by first | assumption | omega)) | with_reducible refine blk_ext ?_ | with_reducible refine blk_alloc ?_))
  · by_cases u2 : c.ground + o.n > 900
    · have E := hid (show iDo m c o = iLast c k { y with seq := o.seq } 5 by rw [EK.out]; simp only [iDrop, u1, u2, if_true, if_false])
      rw [E.out]
      go_enter Try.func67, Try.ntmps67
      go_wp2_with (fail)
      with_reducible refine wp_region_ext (by kernel_rfl) (by kernel_rfl) ?_
      repeat (go_big_quiet_step ((first | (go_at_call 86; first | exact quiet_call (place_c _ _ _ _ _ _ (Re.of (Hid.out (by assumption)) zq0) (by omega)) | exact quiet_call2 (place_c _ _ _ _ _ _ (Re.of (Hid.out (by assumption)) zq0) (by omega))))))
      refine wpQuiet_nil ?_
      rintro _ ⟨tq, rfl⟩
      go_wp2_with (fail)
      with_reducible refine wp_region_ext (by kernel_rfl) (by kernel_rfl) ?_
      repeat (go_big_quiet_step (fail))
      refine wpQuiet_nil ?_
      rintro _ ⟨tq, rfl⟩
      go_wp2_with (fail)
      with_reducible refine wp_region_ext (by kernel_rfl) (by kernel_rfl) ?_
      repeat (go_big_quiet_step (fail))
      refine wpQuiet_nil ?_
      rintro _ ⟨tq, rfl⟩
      go_wp2_with (fail)
      with_reducible refine wp_region_ext (by kernel_rfl) (by kernel_rfl) ?_
      repeat (go_big_quiet_step (fail))
      refine wpQuiet_nil ?_
      rintro _ ⟨tq, rfl⟩
      go_wp2_with (fail)
      with_reducible refine wp_region_ext (by kernel_rfl) (by kernel_rfl) ?_
      repeat (go_big_quiet_step (fail))
      refine wpQuiet_nil ?_
      rintro _ ⟨tq, rfl⟩
      go_wp2_with (fail)
      go_ret
      have r1 := HX.out.wkSet HY.out 3 (.int .i64 o.seq) (y' := { y with seq := o.seq }) (by decide) rfl
      have r2 := r1.wkSet2 hk 4 (.int .i64 5) (y' := { y with seq := o.seq, last := 5 }) (by decide) rfl
      refine ⟨⟨some ⟨g, 0, none⟩, c1, a3, c3, a4, c4, a5, c5⟩, [g], B3, rfl, ?_, r2.of zq0, zq1, fun b hb => .inl hb⟩
      simp only [iLast, setC, List.length_set]; exact (by repeat (first | with_reducible exact HT.out | with_reducible apply blk_drew | with_reducible refine blk_set ?_ | (with_reducible refine blk_other ?_ (by first | assumption | omega)) | with_reducible refine blk_ext ?_ | with_reducible refine blk_alloc ?_))
    · have E := hid (show iDo m c o = iLast { c with ground := c.ground + o.n } k { y with seq := o.seq, coins := y.coins - o.n } 1 by rw [EK.out]; simp only [iDrop, u1, u2, if_false])
      rw [E.out]
      go_enter Try.func67, Try.ntmps67
      go_wp2_with (fail)
      with_reducible refine wp_region_ext (by kernel_rfl) (by kernel_rfl) ?_
      repeat (go_big_quiet_step ((first | (go_at_call 86; first | exact quiet_call (place_c _ _ _ _ _ _ (Re.of (Hid.out (by assumption)) zq0) (by omega)) | exact quiet_call2 (place_c _ _ _ _ _ _ (Re.of (Hid.out (by assumption)) zq0) (by omega))))))
      refine wpQuiet_nil ?_
      rintro _ ⟨tq, rfl⟩
      go_wp2_with (fail)
      with_reducible refine wp_region_ext (by kernel_rfl) (by kernel_rfl) ?_
      repeat (go_big_quiet_step (fail))
      refine wpQuiet_nil ?_
      rintro _ ⟨tq, rfl⟩
      go_wp2_with (fail)
      with_reducible refine wp_region_ext (by kernel_rfl) (by kernel_rfl) ?_
      repeat (go_big_quiet_step (fail))
      refine wpQuiet_nil ?_
      rintro _ ⟨tq, rfl⟩
      go_wp2_with (fail)
      with_reducible refine wp_region_ext (by kernel_rfl) (by kernel_rfl) ?_
      repeat (go_big_quiet_step (fail))
      refine wpQuiet_nil ?_
      rintro _ ⟨tq, rfl⟩
      go_wp2_with (fail)
      with_reducible refine wp_region_ext (by kernel_rfl) (by kernel_rfl) ?_
      repeat (go_big_quiet_step (fail))
      refine wpQuiet_nil ?_
      rintro _ ⟨tq, rfl⟩
      go_wp2_with (fail)
      go_region
      go_wp2_with (fail)
      go_region
      go_wp2_with (fail)
      go_ret
      have r1 := HX.out.wkSet HY.out 3 (.int .i64 o.seq) (y' := { y with seq := o.seq }) (by decide) rfl
      have r2 := r1.wkSet2 hk 2 (.int .i64 (y.coins - o.n)) (y' := { y with seq := o.seq, coins := y.coins - o.n }) (by decide) rfl
      have r3 := r2.chg (B' := [T]) ((Chg.refl [T] _).set (b := T) (o := 2) (by simp) (.int .i64 (c.ground + o.n))) (fun b hb => by have := HTB.out; simp only [List.mem_singleton]; exact fun e => this (e ▸ hb))
      have r4 := (CX.wkSet2 r3 hk 4 (.int .i64 1) (y' := { y with seq := o.seq, coins := y.coins - o.n, last := 1 }) (by decide) rfl)
      refine ⟨⟨some ⟨g, 0, none⟩, c1, a3, c3, a4, c4, a5, c5⟩, [g], B3, rfl, ?_, (r4.of zq0).flat rfl rfl rfl rfl, zq1, fun b hb => .inl hb⟩
      simp only [iLast, setC, List.length_set]; exact (by (repeat (first | with_reducible apply blk_drew | (with_reducible refine blk_other ?_ (by first | assumption | omega)) | with_reducible refine blk_ext ?_ | with_reducible refine blk_alloc ?_)); apply blk_set2; (repeat (first | with_reducible exact HT.out | with_reducible apply blk_drew | (with_reducible refine blk_other ?_ (by first | assumption | omega)) | with_reducible refine blk_ext ?_ | with_reducible refine blk_alloc ?_)); rfl)
set_option maxRecDepth 100000 in
set_option maxHeartbeats 8000000 in
theorem do_pick (m : Mp) (c : Cll) (h : CllH) (T : Nat) (o : Ord) (B1 B3 B4 B5 : List Nat) (w : World) (k : Nat) (y : Wlk)
    (hT : w.heap[T]? = some (.cells #[.int .i64 c.cell, .slice h.a1 c.wk.length h.c1, .int .i64 c.ground, .slice h.a3 c.outs.length h.c3, .slice h.a4 c.next.length h.c4, .slice h.a5 c.ins.length h.c5] 37 (0, 0))) (hx : CX w c h B1 B3 B4 B5) (hTB : T ∉ B1 ++ (B3 ++ (B4 ++ B5))) (F : CllF m c) (ho : ordOk o = true) (hl : c.wk.length ≤ 1048576)
    (hy : c.wk[k]? = some y) (hid' : y.id = o.who) (hs : y.seq < o.seq) (hkk : o.kind = 4) :
    Calls Try.prog 67 #[.pointer (some ⟨T, 0, none⟩), .agg #[.int .i64 m.c, .int .i64 m.w], .agg #[.int .i64 o.who, .int .i64 o.seq, .int .i64 o.kind, .int .i64 o.to_, .int .i64 o.n]] w (DoR w T B1 B3 B4 B5 (iDo m c o).1 (iDo m c o).2) := by
  obtain ⟨a1, c1, a3, c3, a4, c4, a5, c5⟩ := h
  obtain ⟨g, rfl⟩ : ∃ g, a1 = some (⟨g, 0, none⟩ : Addr) := by
    obtain ⟨g, cur, y, e1, _⟩ := hx.x1.at (k := 5) (by decide) (fun _ => rfl) (List.getElem?_eq_some_iff.1 hy).1
    exact ⟨g, e1⟩
  obtain ⟨rfl, lg, hk, hyc, hfr⟩ := hx.wkAt hy
  have hTg : T ≠ g := fun e => hTB (by simp [e])
  have hgT : g ≠ T := Ne.symm hTg
  have HTB := hid hTB
  have HX := hid hx
  have HRe := hid hx.re.r1
  have HY := hid hy
  have HT := hid hT
  have HF := hid F
  have lT := lt_blk hT
  have cT0 : w.cell? ⟨T, 0, none⟩ = some (.int .i64 c.cell) := (cell_blk hT 0).trans rfl
  have cT1 : w.cell? ⟨T, 1, none⟩ = some (.slice (some ⟨g, 0, none⟩) c.wk.length c1) := (cell_blk hT 1).trans rfl
  have cT2 : w.cell? ⟨T, 2, none⟩ = some (.int .i64 c.ground) := (cell_blk hT 2).trans rfl
  have zT1 := frozen_blk hT 1
  have zT2 := frozen_blk hT 2
  have x0 := hyc 0 _ rfl
  have x1 := hyc 1 _ rfl
  have x2 := hyc 2 _ rfl
  have x3 := hyc 3 _ rfl
  have x4 := hyc 4 _ rfl
  rw [Nat.add_zero] at x0
  have z1 := hfr (k * 5 + 1)
  have z2 := hfr (k * 5 + 2)
  have z3 := hfr (k * 5 + 3)
  have z4 := hfr (k * 5 + 4)
  obtain ⟨g1, g2, g3⟩ := get_at F.asc hy
  rw [hid'] at g1 g2 g3
  have hlen := hx.x1.max
  simp only [maxLen] at hlen
  have H1 : wlkPlace c.wk o.who = (k : Int) := g3
  obtain ⟨⟨ya0, ya1⟩, ⟨yi0, yi1⟩, ⟨yc0, yc1⟩, ⟨ys0, ys1⟩, yl0, yl1⟩ := wlk_bd (F.wk y (List.mem_of_getElem? hy))
  have p1 : decide ((k : Int) < 0) = false := by simp
  obtain ⟨_, ⟨os0, os1⟩, _, ok1, ok2, ok5, ⟨on0, on1⟩, onp⟩ := ord_bd ho
  have t1 : ¬ o.seq < y.seq := by omega
  have t2 : ¬ o.seq = y.seq := by omega
  have t3 : (o.seq == y.seq) = false := by simpa using t2
  have n1 := onp (by omega) (by omega)
  have hgr := F.gr
  have EK := hid (show iDo m c o = iPick c k { y with seq := o.seq } o.n by simp [iDo, g1, g2, g3, t1, t2, iKind, hkk])
  have q1 : (o.kind == 1) = false := by rw [hkk]; rfl
  have q2 : (o.kind == 2) = false := by rw [hkk]; rfl
  have q3 : (o.kind == 3) = false := by rw [hkk]; rfl
  have q4 : (o.kind == 4) = true := by rw [hkk]; rfl
  clear g1 g2 g3 hT hx hTB hyc hfr hy F t2 ok1 ok2 ok5 onp hkk
  by_cases u1 : c.ground < o.n
  · have E := hid (show iDo m c o = iLast c k { y with seq := o.seq } 6 by rw [EK.out]; simp only [iPick, u1, if_true])
    rw [E.out]
    go_enter Try.func67, Try.ntmps67
    go_wp2_with (fail)
    with_reducible refine wp_region_ext (by kernel_rfl) (by kernel_rfl) ?_
    repeat (go_big_quiet_step ((first | (go_at_call 86; first | exact quiet_call (place_c _ _ _ _ _ _ (Re.of (Hid.out (by assumption)) zq0) (by omega)) | exact quiet_call2 (place_c _ _ _ _ _ _ (Re.of (Hid.out (by assumption)) zq0) (by omega))))))
    refine wpQuiet_nil ?_
    rintro _ ⟨tq, rfl⟩
    go_wp2_with (fail)
    with_reducible refine wp_region_ext (by kernel_rfl) (by kernel_rfl) ?_
    repeat (go_big_quiet_step (fail))
    refine wpQuiet_nil ?_
    rintro _ ⟨tq, rfl⟩
    go_wp2_with (fail)
    with_reducible refine wp_region_ext (by kernel_rfl) (by kernel_rfl) ?_
    repeat (go_big_quiet_step (fail))
    refine wpQuiet_nil ?_
    rintro _ ⟨tq, rfl⟩
    go_wp2_with (fail)
    with_reducible refine wp_region_ext (by kernel_rfl) (by kernel_rfl) ?_
    repeat (go_big_quiet_step (fail))
    refine wpQuiet_nil ?_
    rintro _ ⟨tq, rfl⟩
    go_wp2_with (fail)
    go_ret
    have r1 := HX.out.wkSet HY.out 3 (.int .i64 o.seq) (y' := { y with seq := o.seq }) (by decide) rfl
    have r2 := r1.wkSet2 hk 4 (.int .i64 6) (y' := { y with seq := o.seq, last := 6 }) (by decide) rfl
    refine ⟨⟨some ⟨g, 0, none⟩, c1, a3, c3, a4, c4, a5, c5⟩, [g], B3, rfl, ?_, r2.of zq0, zq1, fun b hb => .inl hb⟩
    simp only [iLast, setC, List.length_set]; exact (by repeat (first | with_reducible exact HT.out | with_reducible apply blk_drew | with_reducible refine blk_set ?_ | (with_reducible refine blk_other ?_ (by first | assumption | omega)) | with_reducible refine blk_ext ?_ | with_reducible refine blk_alloc ?_))
  · by_cases u2 : y.coins + o.n > 99
    · have E := hid (show iDo m c o = iLast c k { y with seq := o.seq } 5 by rw [EK.out]; simp only [iPick, u1, u2, if_true, if_false])
      rw [E.out]
      go_enter Try.func67, Try.ntmps67
      go_wp2_with (fail)
      with_reducible refine wp_region_ext (by kernel_rfl) (by kernel_rfl) ?_
      repeat (go_big_quiet_step ((first | (go_at_call 86; first | exact quiet_call (place_c _ _ _ _ _ _ (Re.of (Hid.out (by assumption)) zq0) (by omega)) | exact quiet_call2 (place_c _ _ _ _ _ _ (Re.of (Hid.out (by assumption)) zq0) (by omega))))))
      refine wpQuiet_nil ?_
      rintro _ ⟨tq, rfl⟩
      go_wp2_with (fail)
      with_reducible refine wp_region_ext (by kernel_rfl) (by kernel_rfl) ?_
      repeat (go_big_quiet_step (fail))
      refine wpQuiet_nil ?_
      rintro _ ⟨tq, rfl⟩
      go_wp2_with (fail)
      with_reducible refine wp_region_ext (by kernel_rfl) (by kernel_rfl) ?_
      repeat (go_big_quiet_step (fail))
      refine wpQuiet_nil ?_
      rintro _ ⟨tq, rfl⟩
      go_wp2_with (fail)
      with_reducible refine wp_region_ext (by kernel_rfl) (by kernel_rfl) ?_
      repeat (go_big_quiet_step (fail))
      refine wpQuiet_nil ?_
      rintro _ ⟨tq, rfl⟩
      go_wp2_with (fail)
      with_reducible refine wp_region_ext (by kernel_rfl) (by kernel_rfl) ?_
      repeat (go_big_quiet_step (fail))
      refine wpQuiet_nil ?_
      rintro _ ⟨tq, rfl⟩
      go_wp2_with (fail)
      go_ret
      have r1 := HX.out.wkSet HY.out 3 (.int .i64 o.seq) (y' := { y with seq := o.seq }) (by decide) rfl
      have r2 := r1.wkSet2 hk 4 (.int .i64 5) (y' := { y with seq := o.seq, last := 5 }) (by decide) rfl
      refine ⟨⟨some ⟨g, 0, none⟩, c1, a3, c3, a4, c4, a5, c5⟩, [g], B3, rfl, ?_, r2.of zq0, zq1, fun b hb => .inl hb⟩
      simp only [iLast, setC, List.length_set]; exact (by repeat (first | with_reducible exact HT.out | with_reducible apply blk_drew | with_reducible refine blk_set ?_ | (with_reducible refine blk_other ?_ (by first | assumption | omega)) | with_reducible refine blk_ext ?_ | with_reducible refine blk_alloc ?_))
    · have E := hid (show iDo m c o = iLast { c with ground := c.ground - o.n } k { y with seq := o.seq, coins := y.coins + o.n } 1 by rw [EK.out]; simp only [iPick, u1, u2, if_false])
      rw [E.out]
      go_enter Try.func67, Try.ntmps67
      go_wp2_with (fail)
      with_reducible refine wp_region_ext (by kernel_rfl) (by kernel_rfl) ?_
      repeat (go_big_quiet_step ((first | (go_at_call 86; first | exact quiet_call (place_c _ _ _ _ _ _ (Re.of (Hid.out (by assumption)) zq0) (by omega)) | exact quiet_call2 (place_c _ _ _ _ _ _ (Re.of (Hid.out (by assumption)) zq0) (by omega))))))
      refine wpQuiet_nil ?_
      rintro _ ⟨tq, rfl⟩
      go_wp2_with (fail)
      with_reducible refine wp_region_ext (by kernel_rfl) (by kernel_rfl) ?_
      repeat (go_big_quiet_step (fail))
      refine wpQuiet_nil ?_
      rintro _ ⟨tq, rfl⟩
      go_wp2_with (fail)
      with_reducible refine wp_region_ext (by kernel_rfl) (by kernel_rfl) ?_
      repeat (go_big_quiet_step (fail))
      refine wpQuiet_nil ?_
      rintro _ ⟨tq, rfl⟩
      go_wp2_with (fail)
      with_reducible refine wp_region_ext (by kernel_rfl) (by kernel_rfl) ?_
      repeat (go_big_quiet_step (fail))
      refine wpQuiet_nil ?_
      rintro _ ⟨tq, rfl⟩
      go_wp2_with (fail)
      with_reducible refine wp_region_ext (by kernel_rfl) (by kernel_rfl) ?_
      repeat (go_big_quiet_step (fail))
      refine wpQuiet_nil ?_
      rintro _ ⟨tq, rfl⟩
      go_wp2_with (fail)
      go_region
      go_wp2_with (fail)
      go_region
      go_wp2_with (fail)
      go_ret
      have r1 := HX.out.wkSet HY.out 3 (.int .i64 o.seq) (y' := { y with seq := o.seq }) (by decide) rfl
      have r2 := r1.wkSet2 hk 2 (.int .i64 (y.coins + o.n)) (y' := { y with seq := o.seq, coins := y.coins + o.n }) (by decide) rfl
      have r3 := r2.chg (B' := [T]) ((Chg.refl [T] _).set (b := T) (o := 2) (by simp) (.int .i64 (c.ground - o.n))) (fun b hb => by have := HTB.out; simp only [List.mem_singleton]; exact fun e => this (e ▸ hb))
      have r4 := (CX.wkSet2 r3 hk 4 (.int .i64 1) (y' := { y with seq := o.seq, coins := y.coins + o.n, last := 1 }) (by decide) rfl)
      refine ⟨⟨some ⟨g, 0, none⟩, c1, a3, c3, a4, c4, a5, c5⟩, [g], B3, rfl, ?_, (r4.of zq0).flat rfl rfl rfl rfl, zq1, fun b hb => .inl hb⟩
      simp only [iLast, setC, List.length_set]; exact (by (repeat (first | with_reducible apply blk_drew | (with_reducible refine blk_other ?_ (by first | assumption | omega)) | with_reducible refine blk_ext ?_ | with_reducible refine blk_alloc ?_)); apply blk_set2; (repeat (first | with_reducible exact HT.out | with_reducible apply blk_drew | (with_reducible refine blk_other ?_ (by first | assumption | omega)) | with_reducible refine blk_ext ?_ | with_reducible refine blk_alloc ?_)); rfl)
end Go.Proofs.Ytablgohncilmfaa

namespace Go.Proofs.Ytablgohncilmfaa
open Go.RowKit
set_option linter.unusedSimpArgs false
set_option linter.unusedVariables false

section
variable {P : Program} {ops : Array Oper} {S : World → Prop} {Q : Exit → Act → World → Prop} {md : Region.Mode}
theorem wpAnyN_firstU {i N : Nat} {oi : Oper} {v : Value} (hi : ops[i]? = some oi) (hiN : i ≠ N) (hNw : reaches ops ops.size N i = true) (hsel : ∀ (j : Nat) (o : Oper) cs b, ops[j]? = some o → o.op ≠ .select cs b)
    (hQ : ∀ c a w, Q (.panic c) (a.put oi.dst v) w → Q (.panic c) a w) :
    ∀ (fuel : Nat) (listed : Array Bool) (a : Act) (w : World),
      (∀ j oj, ops[j]? = some oj → j ≠ i → listed.getD j true = false → (∀ e ∈ oj.after, Region.binds .any e = true → e.on ≠ i) → oi.apart ops oj = true) →
      Closed ops listed → i ∈ Region.ready .any ops listed → YieldsIf P ops S oi v a → S w →
      wpAnyN P .any ops Q S N fuel (listed.setIfInBounds i true) (a.put oi.dst v) w → wpAnyN P .any ops Q S N (fuel + 1) listed a w := by
  intro fuel
  induction fuel with
  | zero =>
    intro listed a w _ hcl hr hy hS H
    refine ⟨fun h => (by rw [h] at hr; cases hr), fun j hj => ?_⟩
    by_cases hji : j = i
    · subst hji; exact hy.wpOp hi hS ⟨fun _ => hS, H⟩
    · have := ready_mono hj hji
      rw [H.1] at this
      cases this
  | succ fuel ih =>
    intro listed a w hfree hcl hr hy hS H
    refine ⟨fun h => (by rw [h] at hr; cases hr), fun j hj => ?_⟩
    by_cases hji : j = i
    · subst hji; exact hy.wpOp hi hS ⟨fun _ => hS, H⟩
    · have h1 := H.2 j (ready_mono hj hji)
      obtain ⟨hjun, oj, hoj, hall⟩ := mem_ready.1 hj
      have hnot : ∀ e ∈ oj.after, Region.binds .any e = true → e.on ≠ i := fun e he hb heq => by
        have h1 := hall e he hb
        have h0 := (mem_ready.1 hr).1
        rw [heq] at h1
        rcases Nat.lt_or_ge i listed.size with h' | h'
        · simp [h'] at h0 h1; rw [h0] at h1; cases h1
        · simp [Array.getElem?_eq_none h'] at h1
      have hjN : j ≠ N := fun e => by
        subst e
        have hl := Closed.reach hcl _ j i (fun o ho e he hb => by rw [hoj] at ho; obtain rfl := Option.some.inj ho; exact hall e he hb) hNw
        have h0 := (mem_ready.1 hr).1
        rcases Nat.lt_or_ge i listed.size with h' | h'
        · simp [h'] at hl h0; rw [h0] at hl; cases hl
        · simp [Array.getElem?_eq_none h'] at hl
      have h2 := wpOp_putIf hoj (hfree j oj hoj hji hjun hnot) (fun cs b => hsel i oi cs b hi) (fun cs b => hsel j oj cs b hoj) hQ hy h1
      have hfree' : ∀ k ok, ops[k]? = some ok → k ≠ i → (listed.setIfInBounds j true).getD k true = false →
          (∀ e ∈ ok.after, Region.binds .any e = true → e.on ≠ i) → oi.apart ops ok = true := fun k ok hk hki hun hno => by
        refine hfree k ok hk hki ?_ hno
        by_cases hjk : j = k
        · subst hjk; exact hjun
        · rw [getD_set_ne true hjk] at hun; exact hun
      refine wpOp_mono (fun a' w' h3 => ⟨fun _ => h3.2.1 hjN, ih (listed.setIfInBounds j true) a' w' hfree' (hcl.step hj) (ready_mono hr (Ne.symm hji)) h3.1 (h3.2.1 hjN) ?_⟩) h2
      rw [Array.setIfInBounds_comm _ _ hji]
      exact h3.2.2
theorem mixN_soundU {N : Nat} {oN : Oper} (hB : segOkT ops = true) (hNs : N + 1 = ops.size) (hN : ops[N]? = some oN) (hgN : oN.guard = none) (hNw : ∀ j, j < N → reaches ops ops.size N j = true) (hQ : ∀ c a d (v : Value) w, Q (.panic c) (Act.put a d v) w → Q (.panic c) a w) : ∀ (rem : List Nat) (listed : Array Bool) (a : Act) (w : World), listed.size = ops.size →
    rem.Pairwise (· < ·) → (∀ j, j ∈ rem ↔ j < N ∧ listed.getD j true = false) → listed.getD N true = false → Closed ops listed → S w → wpMix P ops S (lastK P oN Q) rem a w → wpAnyN P .any ops Q S N (rem.length + 1) listed a w := by
  have wantN : ∀ y, Region.wanted oN y = true := fun y => by simp [Region.wanted, hgN]
  intro rem
  generalize hn : rem.length = n
  induction n generalizing rem with
  | zero =>
    intro listed a w hsz hpw hmem hlN hcl hS h
    obtain rfl := List.eq_nil_of_length_eq_zero hn
    have lst : ∀ j, j < N → listed.getD j true = true := fun j hj => by
      cases hl : listed.getD j true with
      | true => rfl
      | false => exact absurd ((hmem j).2 ⟨hj, hl⟩) (by simp)
    have hNr : N ∈ Region.ready .any ops listed := by
      refine mem_ready.2 ⟨hlN, oN, hN, fun e he hb => ?_⟩
      have hlt := (segOkT_at hB hN).1 e he hb
      have h1 := lst e.on hlt
      have : e.on < listed.size := by omega
      simp [this] at h1 ⊢; exact h1
    refine ⟨fun h0 => (by rw [h0] at hNr; cases hNr), fun j hj => ?_⟩
    have ejN : j = N := by
      obtain ⟨h0, oj, hoj, _⟩ := mem_ready.1 hj
      have hjs := (Array.getElem?_eq_some_iff.1 hoj).1
      rcases Nat.lt_or_ge j N with h' | h'
      · rw [lst j h'] at h0; cases h0
      · omega
    subst ejN
    unfold wpOp
    simp only [hN, wantN, if_true]
    refine .inl (wp_Qn (fun a' w' h1 => ⟨fun h' => absurd rfl h', ?_, h1⟩) h)
    rw [List.eq_nil_iff_forall_not_mem]
    intro k hk
    obtain ⟨h0, ok, hok, _⟩ := mem_ready.1 hk
    have hks := (Array.getElem?_eq_some_iff.1 hok).1
    by_cases e : j = k
    · subst e
      have : j < listed.size := by omega
      simp [this] at h0
    · rw [getD_set_ne true e, lst k (by omega)] at h0; cases h0
  | succ n ih =>
    intro listed a w hsz hpw hmem hlN hcl hS h
    have hs := segOkT_sel hB
    have nowait : ∀ i j oi, ops[i]? = some oi → i ∈ Region.ready .any ops listed → listed.getD j true = false → waits oi j = false := fun i j oi hi hr hj => by
      obtain ⟨_, o, ho, hall⟩ := mem_ready.1 hr
      rw [hi] at ho; obtain rfl := Option.some.inj ho
      cases hwt : waits oi j with
      | false => rfl
      | true =>
        simp only [waits, Array.any_eq_true, Bool.and_eq_true, beq_iff_eq] at hwt
        obtain ⟨q, hq, hb, he⟩ := hwt
        have := hall _ (Array.getElem_mem hq) hb
        rw [he] at this
        rcases Nat.lt_or_ge j listed.size with h' | h'
        · simp [h'] at hj this; rw [hj] at this; cases this
        · simp [Array.getElem?_eq_none h'] at this
    have inrem : ∀ j, j ∈ Region.ready .any ops listed → j ∈ rem := fun j hj => by
      obtain ⟨h0, o, ho, _⟩ := mem_ready.1 hj
      have hjs := (Array.getElem?_eq_some_iff.1 ho).1
      rcases Nat.lt_or_ge j N with h' | h'
      · exact (hmem j).2 ⟨h', h0⟩
      · exfalso
        obtain rfl : j = N := by omega
        cases rem with
        | nil => simp at hn
        | cons k rest =>
          obtain ⟨k1, k2⟩ := (hmem k).1 (by simp)
          rw [hN] at ho; obtain rfl := Option.some.inj ho
          obtain ⟨_, o9, ho9, hall9⟩ := mem_ready.1 hj
          rw [hN] at ho9; obtain rfl := Option.some.inj ho9
          have hl := Closed.reach hcl _ j k (fun o ho e he hb => by rw [hN] at ho; obtain rfl := Option.some.inj ho; exact hall9 e he hb) (hNw k k1)
          rcases Nat.lt_or_ge k listed.size with h' | h'
          · simp [h'] at hl k2; rw [k2] at hl; cases hl
          · simp [Array.getElem?_eq_none h'] at hl
    have after : ∀ (i : Nat), i ∈ rem → ∀ (pre post : List Nat), rem = pre ++ i :: post → (∀ j, j ∈ pre ++ post ↔ j < N ∧ (listed.setIfInBounds i true).getD j true = false) ∧ (pre ++ post).Pairwise (· < ·) ∧ (pre ++ post).length = n ∧ (listed.setIfInBounds i true).getD N true = false := fun i hi pre post he => by
      have hiN := ((hmem i).1 hi).1
      subst he
      have hpp := List.pairwise_append.1 hpw
      obtain ⟨hp1, hp2, hp3⟩ := hpp
      obtain ⟨hp4, hp5⟩ := List.pairwise_cons.1 hp2
      refine ⟨fun j => ?_, ?_, by simp at hn ⊢; omega, by rw [getD_set_ne true (by omega)]; exact hlN⟩
      · have hij : i < listed.size := by have := ((hmem i).1 hi).1; omega
        by_cases e : i = j
        · subst e
          constructor
          · intro hj
            rcases List.mem_append.1 hj with hj | hj
            · have := hp3 _ hj i (by simp); omega
            · have := hp4 _ hj; omega
          · rintro ⟨_, hj⟩
            simp [hij] at hj
        · rw [getD_set_ne true e, ← hmem j]
          simp only [List.mem_append, List.mem_cons]
          constructor
          · rintro (hj | hj)
            · exact .inl hj
            · exact .inr (.inr hj)
          · rintro (hj | hj | hj)
            · exact .inl hj
            · exact absurd hj.symm e
            · exact .inr hj
      · exact List.pairwise_append.2 ⟨hp1, hp5, fun x hx y hy => hp3 x hx y (by simp [hy])⟩
    by_cases hp : ∃ i oi, i ∈ Region.ready .any ops listed ∧ ops[i]? = some oi ∧ isMk oi.op = false
    · obtain ⟨i, oi, hr, hi, hpure⟩ := hp
      have him := inrem i hr
      obtain ⟨pre, post, he⟩ := List.append_of_mem him
      obtain ⟨q1, q2, q3, q4⟩ := after i him pre post he
      have hlt : ∀ k ∈ pre, k < i := fun k hk => by
        rw [he] at hpw
        exact (List.pairwise_append.1 hpw).2.2 k hk i (by simp)
      have hfree : ∀ j oj, ops[j]? = some oj → j ≠ i → listed.getD j true = false → waits oj i = false → oi.apart ops oj = true := fun j oj hj hne hun hno => by
        rcases Nat.lt_or_ge j i with hji | hji
        · exact segPairT_r ((segOkT_at hB hi).2 j oj hji hj) hpure (nowait i j oi hi hr hun)
        · exact segPairT_l ((segOkT_at hB hj).2 i oi (by omega) hi) hpure hno
      rw [he] at h
      obtain ⟨v, hy, hh⟩ := mix_hoist hs hi hpure pre post a w hS (fun k hk => by
        have hkm : k ∈ rem := by rw [he]; simp [hk]
        obtain ⟨k1, k2⟩ := (hmem k).1 hkm
        obtain ⟨ok, hok⟩ : ∃ ok, ops[k]? = some ok := ⟨_, Array.getElem?_eq_getElem (by omega)⟩
        have hki := hlt k hk
        refine ⟨ok, hok, hfree k ok hok (by omega) k2 ?_⟩
        cases hwt : waits ok i with
        | false => rfl
        | true =>
          simp only [waits, Array.any_eq_true, Bool.and_eq_true, beq_iff_eq] at hwt
          obtain ⟨q, hq, hb, he'⟩ := hwt
          have := (segOkT_at hB hok).1 _ (Array.getElem_mem hq) hb
          omega) h
      refine wpAnyN_firstU hi (N := N) (by have := ((hmem i).1 him).1; omega) (hNw i ((hmem i).1 him).1) (Region.noSelect_spec hs) (fun c a w => hQ c a _ _ w) _ listed a w (fun j oj hj hne hun hno => hfree j oj hj hne hun ?_) hcl hr hy hS ?_
      · cases hwt : waits oj i with
        | false => rfl
        | true =>
          simp only [waits, Array.any_eq_true, Bool.and_eq_true, beq_iff_eq] at hwt
          obtain ⟨q, hq, hb, he'⟩ := hwt
          exact absurd he' (hno _ (Array.getElem_mem hq) hb)
      · exact ih (pre ++ post) q3 _ _ _ (by simp [hsz]) q2 q1 q4 (hcl.step hr) hS hh
    · cases rem with
      | nil => simp at hn
      | cons k rest =>
        obtain ⟨k1, k2⟩ := (hmem k).1 (by simp)
        obtain ⟨ok, hok⟩ : ∃ ok, ops[k]? = some ok := ⟨_, Array.getElem?_eq_getElem (by omega)⟩
        obtain ⟨hpk, hpr⟩ := List.pairwise_cons.1 hpw
        have hkr : k ∈ Region.ready .any ops listed := by
          refine mem_ready.2 ⟨k2, ok, hok, fun e he hb => ?_⟩
          have hlt := (segOkT_at hB hok).1 e he hb
          cases hl : listed.getD e.on true with
          | true =>
            have : e.on < listed.size := by omega
            simp [this] at hl ⊢; exact hl
          | false =>
            have := (hmem e.on).2 ⟨by omega, hl⟩
            rcases List.mem_cons.1 this with h' | h'
            · omega
            · have := hpk _ h'; omega
        have hmk : isMk ok.op = true := by
          cases hm : isMk ok.op with
          | true => rfl
          | false => exact absurd ⟨k, ok, hkr, hok, hm⟩ hp
        have only : ∀ j, j ∈ Region.ready .any ops listed → j = k := fun j hj => by
          rcases List.mem_cons.1 (inrem j hj) with h' | h'
          · exact h'
          · exfalso
            have hkj := hpk j h'
            obtain ⟨_, oj, hoj, _⟩ := mem_ready.1 hj
            have hmj : isMk oj.op = true := by
              cases hm : isMk oj.op with
              | true => rfl
              | false => exact absurd ⟨j, oj, hj, hoj, hm⟩ hp
            have h1 := segPairT_mk ((segOkT_at hB hoj).2 k ok hkj hok) hmk hmj
            have h2 := hcl.reach (ops.size) j k (by
              obtain ⟨_, o2, ho2, hall⟩ := mem_ready.1 hj
              intro o ho e he hb
              rw [ho2] at ho; obtain rfl := Option.some.inj ho
              exact hall e he hb) h1
            have : k < listed.size := by omega
            simp [this] at k2 h2
            rw [k2] at h2; cases h2
        obtain ⟨q1, q2, q3, q4⟩ := after k (by simp) [] rest rfl
        simp only [List.nil_append] at q1 q2 q3
        refine ⟨fun h0 => (by rw [h0] at hkr; cases hkr), fun j hj => ?_⟩
        obtain rfl := only j hj
        simp only [wpMix, hok, hmk, if_true] at h
        unfold wpOp
        simp only [hok]
        split
        · rename_i hw
          simp only [hw, if_true] at h
          exact .inl (wp_Qn (fun a' w' ⟨h1, h2⟩ => ⟨fun _ => h1, ih rest q3 _ _ _ (by simp [hsz]) q2 q1 q4 (hcl.step hkr) h1 h2⟩) h)
        · rename_i hw
          simp only [hw] at h
          exact ⟨fun _ => hS, ih rest q3 _ _ _ (by simp [hsz]) q2 q1 q4 (hcl.step hkr) hS h⟩

theorem wp_region_U (S : World → Prop) {id : Nat} {a : Act} {w : World} {l : List Oper} {oN : Oper} (hm : P.follows .mixedOrders = true) (hB : segOkT l.toArray = true) (hN : l.toArray[l.length - 1]? = some oN) (hgN : oN.guard = none) (hNw : (List.range (l.length - 1)).all (fun j => reaches l.toArray l.toArray.size (l.length - 1) j) = true) (hS : S w.drew)
    (h : wpMixL P l.toArray S (lastK P oN (Qt Q)) l.dropLast a w.drew) : (Code.region id l.toArray true).wp P Q a w := by
  refine Code.wp_mono (Q := Qt Q) (fun e a w h => by cases e <;> first | exact h | exact False.elim h) (wp_region_any hm (wpAny_of_N (S := S) (N := l.length - 1) _ _ _ _ ?_))
  have hpos : 0 < l.length := by
    cases l with
    | nil => simp at hN
    | cons _ _ => simp
  have h1 := mix_of_list' (ops := l.toArray) l.dropLast 0 a _ (fun j o ho => by
    rw [List.getElem?_dropLast] at ho
    split at ho
    · simpa using ho
    · cases ho) h
  have h2 := mixN_soundU (N := l.length - 1) hB (by simp; omega) hN hgN (fun j hj => by simpa using List.all_eq_true.1 hNw j (by simpa using hj)) (fun c a d v w h => h) (List.range' 0 l.dropLast.length) (Array.replicate l.toArray.size false) a w.drew (by simp) List.pairwise_lt_range' (fun j => by
    simp only [List.mem_range'_1, List.length_dropLast, Nat.zero_le, true_and, Nat.zero_add]
    constructor
    · intro hj; exact ⟨hj, by
        have : j < l.length := by omega
        simp [this]⟩
    · exact fun hj => hj.1) (by
      have : l.length - 1 < l.length := by omega
      simp [this]) (closed_none _ _) hS h1
  have e : (List.range' 0 l.dropLast.length).length + 1 = l.toArray.size := by simp; omega
  rw [e] at h2
  exact h2
theorem wp_region_UR (R : Nat) {id : Nat} {a : Act} {w : World} {l : List Oper} {oN : Oper} (hm : P.follows .mixedOrders = true) (hB : segOkT l.toArray = true) (hNw : (List.range (l.length - 1)).all (fun j => reaches l.toArray l.toArray.size (l.length - 1) j) = true) (hN : l.toArray[l.length - 1]? = some oN) (hgN : oN.guard = none)
    (h : wpMixL P l.toArray (fun w' => ∃ x, w' = extR w R x) (lastK P oN (Qt Q)) l.dropLast a w.drew) : (Code.region id l.toArray true).wp P Q a w :=
  wp_region_U (fun w' => ∃ x, w' = extR w R x) hm hB hN hgN hNw (extR_of (Chg.refl _ _).drew) h
end
end Go.Proofs.Ytablgohncilmfaa

namespace Go.Proofs.Ytablgohncilmfaa
open Go.RowKit
set_option linter.unusedSimpArgs false
set_option linter.unusedVariables false

theorem iPlcCell_g (m : Mp) (p b : Int) (w : World) (h : Hid (plcCell m p = b)) : Calls Try.prog 78 #[.agg #[.int .i64 m.c, .int .i64 m.w], .int .i64 p] w fun e w' => e = .returned (.int .i64 b) ∧ Ext w w' := by
  have := iPlcCell_c m p w
  rwa [h.out] at this
theorem out_set {xs : List Wlk} {k : Nat} {x y : Wlk} (h : Asc xs) (hx : xs[k]? = some x) (hid' : x.id = y.id) : wlkOut (xs.set k y) y.id = wlkOut xs y.id := by
  obtain ⟨A, B, hAB, hAk, hA, hB, _⟩ := asc_split h hx
  rw [show xs.set k y = A ++ y :: B by rw [hAB, ← hAk]; simp, hAB,
    out_mid rfl (fun a ha => by have := hA a ha; omega) (fun b hb => by have := hB b hb; omega), out_mid hid' (fun a ha => by have := hA a ha; omega) (fun b hb => by have := hB b hb; omega)]
set_option maxRecDepth 100000 in
set_option maxHeartbeats 8000000 in
theorem do_step (m : Mp) (c : Cll) (h : CllH) (T : Nat) (o : Ord) (B1 B3 B4 B5 : List Nat) (w : World) (k : Nat) (y : Wlk)
    (hT : w.heap[T]? = some (.cells #[.int .i64 c.cell, .slice h.a1 c.wk.length h.c1, .int .i64 c.ground, .slice h.a3 c.outs.length h.c3, .slice h.a4 c.next.length h.c4, .slice h.a5 c.ins.length h.c5] 37 (0, 0))) (hx : CX w c h B1 B3 B4 B5) (hTB : T ∉ B1 ++ (B3 ++ (B4 ++ B5))) (F : CllF m c) (ho : ordOk o = true) (hl : c.wk.length ≤ 1048576)
    (hy : c.wk[k]? = some y) (hid' : y.id = o.who) (hs : y.seq < o.seq) (hkk : o.kind = 1) :
    Calls Try.prog 67 #[.pointer (some ⟨T, 0, none⟩), .agg #[.int .i64 m.c, .int .i64 m.w], .agg #[.int .i64 o.who, .int .i64 o.seq, .int .i64 o.kind, .int .i64 o.to_, .int .i64 o.n]] w (DoR w T B1 B3 B4 B5 (iDo m c o).1 (iDo m c o).2) := by
  obtain ⟨a1, c1, a3, c3, a4, c4, a5, c5⟩ := h
  obtain ⟨g, rfl⟩ : ∃ g, a1 = some (⟨g, 0, none⟩ : Addr) := by
    obtain ⟨g, cur, y, e1, _⟩ := hx.x1.at (k := 5) (by decide) (fun _ => rfl) (List.getElem?_eq_some_iff.1 hy).1
    exact ⟨g, e1⟩
  obtain ⟨rfl, lg, hk, hyc, hfr⟩ := hx.wkAt hy
  have hTg : T ≠ g := fun e => hTB (by simp [e])
  have hgT : g ≠ T := Ne.symm hTg
  have HTB := hid hTB
  have HX := hid hx
  have HRe := hid hx.re.r1
  have HY := hid hy
  have HT := hid hT
  have HF := hid F
  have lT := lt_blk hT
  have cT0 : w.cell? ⟨T, 0, none⟩ = some (.int .i64 c.cell) := (cell_blk hT 0).trans rfl
  have cT1 : w.cell? ⟨T, 1, none⟩ = some (.slice (some ⟨g, 0, none⟩) c.wk.length c1) := (cell_blk hT 1).trans rfl
  have cT2 : w.cell? ⟨T, 2, none⟩ = some (.int .i64 c.ground) := (cell_blk hT 2).trans rfl
  have zT1 := frozen_blk hT 1
  have zT2 := frozen_blk hT 2
  have x0 := hyc 0 _ rfl
  have x1 := hyc 1 _ rfl
  have x2 := hyc 2 _ rfl
  have x3 := hyc 3 _ rfl
  have x4 := hyc 4 _ rfl
  rw [Nat.add_zero] at x0
  have z1 := hfr (k * 5 + 1)
  have z2 := hfr (k * 5 + 2)
  have z3 := hfr (k * 5 + 3)
  have z4 := hfr (k * 5 + 4)
  obtain ⟨g1, g2, g3⟩ := get_at F.asc hy
  rw [hid'] at g1 g2 g3
  have hlen := hx.x1.max
  simp only [maxLen] at hlen
  have H1 : wlkPlace c.wk o.who = (k : Int) := g3
  obtain ⟨⟨ya0, ya1⟩, ⟨yi0, yi1⟩, ⟨yc0, yc1⟩, ⟨ys0, ys1⟩, yl0, yl1⟩ := wlk_bd (F.wk y (List.mem_of_getElem? hy))
  have p1 : decide ((k : Int) < 0) = false := by simp
  obtain ⟨_, ⟨os0, os1⟩, _, ok1, ok2, ok5, ⟨on0, on1⟩, onp⟩ := ord_bd ho
  have t1 : ¬ o.seq < y.seq := by omega
  have t2 : ¬ o.seq = y.seq := by omega
  have t3 : (o.seq == y.seq) = false := by simpa using t2
  obtain ⟨to0, to1⟩ := ok1 hkk
  obtain ⟨s, hso⟩ : ∃ s : Nat, o.to_ = (s : Int) := ⟨o.to_.toNat, by omega⟩
  have hs2 : s < 2 := by omega
  obtain ⟨xs, nx, ix, hxs, hnx, _, hpl, ⟨nx0, nx1⟩, _, hxl, _⟩ := F.side s hs2
  have HXS := hid hxs
  have HNX := hid hnx
  have hna : nextAt c o.to_ = nx := by rw [hso]; exact nextAt_eq hnx
  have EK := hid (show iDo m c o = iStep m c k { y with seq := o.seq } o.to_ by simp [iDo, g1, g2, g3, t1, t2, iKind, hkk])
  have HNA := hid hna
  have HSO := hid hso
  have HOS := hid (show wlkOut (c.wk.set k { y with seq := o.seq }) o.who = wlkOut c.wk o.who by
    have := out_set (y := { y with seq := o.seq }) F.asc hy rfl
    rw [← hid']; exact this)
  have HID := hid hid'
  obtain ⟨pc, hpc⟩ : ∃ pc, plcCell m (y.at_ + (2 * o.to_ - 1)) = pc := ⟨_, rfl⟩
  have HPC := hid hpc
  have q1 : (o.kind == 1) = true := by rw [hkk]; rfl
  clear g1 g2 g3 hT hx hTB hyc hfr hy F t2 ok1 ok2 ok5 onp hkk hxs hnx hna hso hpc hid'
  by_cases v1 : pc = -1
  · subst v1
    have E := hid (show iDo m c o = iLast c k { y with seq := o.seq } 2 by rw [EK.out]; simp only [iStep, HPC.out, if_true])
    rw [E.out]
    go_enter Try.func67, Try.ntmps67
    go_wp2_with (fail)
    with_reducible refine wp_region_ext (by kernel_rfl) (by kernel_rfl) ?_
    repeat (go_big_quiet_step ((first | (go_at_call 86; first | exact quiet_call (place_c _ _ _ _ _ _ (Re.of (Hid.out (by assumption)) zq0) (by omega)) | exact quiet_call2 (place_c _ _ _ _ _ _ (Re.of (Hid.out (by assumption)) zq0) (by omega))))))
    refine wpQuiet_nil ?_
    rintro _ ⟨tq, rfl⟩
    go_wp2_with (fail)
    with_reducible refine wp_region_ext (by kernel_rfl) (by kernel_rfl) ?_
    repeat (go_big_quiet_step (fail))
    refine wpQuiet_nil ?_
    rintro _ ⟨tq, rfl⟩
    go_wp2_with (fail)
    with_reducible refine wp_region_ext (by kernel_rfl) (by kernel_rfl) ?_
    repeat (go_big_quiet_step (fail))
    refine wpQuiet_nil ?_
    rintro _ ⟨tq, rfl⟩
    go_wp2_with (fail)
    with_reducible refine wp_region_ext (by kernel_rfl) (by kernel_rfl) ?_
    repeat (go_big_quiet_step ((first | (go_at_call 88; first | exact quiet_same (toward_c _ _ (by omega) (by omega)) | exact quiet_same2 (toward_c _ _ (by omega) (by omega))))))
    refine wpQuiet_nil ?_
    rintro _ ⟨tq, rfl⟩
    go_wp2_with (first | (go_at_call 78; refine (iPlcCell_g _ _ _ _ (by assumption)).mono ?_; rintro e w' ⟨rfl, t, rfl⟩))
    go_ret
    have r1 := HX.out.wkSet HY.out 3 (.int .i64 o.seq) (y' := { y with seq := o.seq }) (by decide) rfl
    have r2 := r1.wkSet2 hk 4 (.int .i64 2) (y' := { y with seq := o.seq, last := 2 }) (by decide) rfl
    refine ⟨⟨some ⟨g, 0, none⟩, c1, a3, c3, a4, c4, a5, c5⟩, [g], B3, rfl, ?_, r2.of zq0, zq1, fun b hb => .inl hb⟩
    simp only [iLast, setC, List.length_set]; exact (by repeat (first | with_reducible exact HT.out | with_reducible apply blk_drew | with_reducible refine blk_set ?_ | (with_reducible refine blk_other ?_ (by first | assumption | omega)) | with_reducible refine blk_ext ?_ | with_reducible refine blk_alloc ?_))
  · have w1 : (pc == -1) = false := by simpa using v1
    by_cases v2 : pc = c.cell
    · have w2 : (pc == c.cell) = true := by simpa using v2
      have E := hid (show iDo m c o = iLast c k { y with seq := o.seq, at_ := y.at_ + (2 * o.to_ - 1) } 1 by rw [EK.out]; simp only [iStep, HPC.out, v1, if_false, if_pos v2])
      clear v2
      rw [E.out]
      go_enter Try.func67, Try.ntmps67
      go_wp2_with (fail)
      with_reducible refine wp_region_ext (by kernel_rfl) (by kernel_rfl) ?_
      repeat (go_big_quiet_step ((first | (go_at_call 86; first | exact quiet_call (place_c _ _ _ _ _ _ (Re.of (Hid.out (by assumption)) zq0) (by omega)) | exact quiet_call2 (place_c _ _ _ _ _ _ (Re.of (Hid.out (by assumption)) zq0) (by omega))))))
      refine wpQuiet_nil ?_
      rintro _ ⟨tq, rfl⟩
      go_wp2_with (fail)
      with_reducible refine wp_region_ext (by kernel_rfl) (by kernel_rfl) ?_
      repeat (go_big_quiet_step (fail))
      refine wpQuiet_nil ?_
      rintro _ ⟨tq, rfl⟩
      go_wp2_with (fail)
      with_reducible refine wp_region_ext (by kernel_rfl) (by kernel_rfl) ?_
      repeat (go_big_quiet_step (fail))
      refine wpQuiet_nil ?_
      rintro _ ⟨tq, rfl⟩
      go_wp2_with (fail)
      with_reducible refine wp_region_ext (by kernel_rfl) (by kernel_rfl) ?_
      repeat (go_big_quiet_step ((first | (go_at_call 88; first | exact quiet_same (toward_c _ _ (by omega) (by omega)) | exact quiet_same2 (toward_c _ _ (by omega) (by omega))))))
      refine wpQuiet_nil ?_
      rintro _ ⟨tq, rfl⟩
      go_wp2_with (first | (go_at_call 78; refine (iPlcCell_g _ _ _ _ (by assumption)).mono ?_; rintro e w' ⟨rfl, t, rfl⟩))
      go_ret
      have r1 := HX.out.wkSet HY.out 3 (.int .i64 o.seq) (y' := { y with seq := o.seq }) (by decide) rfl
      have r2 := r1.wkSet2 hk 1 (.int .i64 (y.at_ + (2 * o.to_ - 1))) (y' := { y with seq := o.seq, at_ := y.at_ + (2 * o.to_ - 1) }) (by decide) rfl
      have r3 := r2.wkSet2 hk 4 (.int .i64 1) (y' := { y with seq := o.seq, at_ := y.at_ + (2 * o.to_ - 1), last := 1 }) (by decide) rfl
      refine ⟨⟨some ⟨g, 0, none⟩, c1, a3, c3, a4, c4, a5, c5⟩, [g], B3, rfl, ?_, r3.of zq0, zq1, fun b hb => .inl hb⟩
      simp only [iLast, setC, List.length_set]; exact (by repeat (first | with_reducible exact HT.out | with_reducible apply blk_drew | with_reducible refine blk_set ?_ | (with_reducible refine blk_other ?_ (by first | assumption | omega)) | with_reducible refine blk_ext ?_ | with_reducible refine blk_alloc ?_))
    · have w2 : (pc == c.cell) = false := by simpa using v2
      by_cases u2 : nx = 5000
      · have E := hid (show iDo m c o = iLast c k { y with seq := o.seq } 2 by rw [EK.out]; simp only [iStep, HPC.out, v1, v2, HNA.out, u2, if_true, if_false])
        rw [E.out]
        go_enter Try.func67, Try.ntmps67
        go_wp2_with (fail)
        with_reducible refine wp_region_ext (by kernel_rfl) (by kernel_rfl) ?_
        repeat (go_big_quiet_step ((first | (go_at_call 86; first | exact quiet_call (place_c _ _ _ _ _ _ (Re.of (Hid.out (by assumption)) zq0) (by omega)) | exact quiet_call2 (place_c _ _ _ _ _ _ (Re.of (Hid.out (by assumption)) zq0) (by omega))))))
        refine wpQuiet_nil ?_
        rintro _ ⟨tq, rfl⟩
        go_wp2_with (fail)
        with_reducible refine wp_region_ext (by kernel_rfl) (by kernel_rfl) ?_
        repeat (go_big_quiet_step (fail))
        refine wpQuiet_nil ?_
        rintro _ ⟨tq, rfl⟩
        go_wp2_with (fail)
        with_reducible refine wp_region_ext (by kernel_rfl) (by kernel_rfl) ?_
        repeat (go_big_quiet_step (fail))
        refine wpQuiet_nil ?_
        rintro _ ⟨tq, rfl⟩
        go_wp2_with (fail)
        with_reducible refine wp_region_ext (by kernel_rfl) (by kernel_rfl) ?_
        repeat (go_big_quiet_step ((first | (go_at_call 88; first | exact quiet_same (toward_c _ _ (by omega) (by omega)) | exact quiet_same2 (toward_c _ _ (by omega) (by omega))))))
        refine wpQuiet_nil ?_
        rintro _ ⟨tq, rfl⟩
        go_wp2_with (first | (go_at_call 78; refine (iPlcCell_g _ _ _ _ (by assumption)).mono ?_; rintro e w' ⟨rfl, t, rfl⟩))
        refine calls_gen fun Y hY => ?_
        have r1 := HX.out.wkSet HY.out 3 (.int .i64 o.seq) (y' := { y with seq := o.seq }) (by decide) rfl
        have hxY : CX Y (setC c k { y with seq := o.seq }) ⟨some ⟨g, 0, none⟩, c1, a3, c3, a4, c4, a5, c5⟩ [g] B3 B4 B5 := by rw [hY]; exact r1.of zq0
        have hTY : Y.heap[T]? = some (.cells #[.int .i64 c.cell, .slice (some ⟨g, 0, none⟩) (setC c k { y with seq := o.seq }).wk.length c1, .int .i64 c.ground, .slice a3 c.outs.length c3, .slice a4 c.next.length c4, .slice a5 c.ins.length c5] 37 (0, 0)) := by
          rw [show (setC c k { y with seq := o.seq }).wk.length = c.wk.length from List.length_set .., hY]; exact (by repeat (first | with_reducible exact HT.out | with_reducible apply blk_drew | with_reducible refine blk_set ?_ | (with_reducible refine blk_other ?_ (by first | assumption | omega)) | with_reducible refine blk_ext ?_ | with_reducible refine blk_alloc ?_))
        have hOY : Y.heap[w.heap.size + 1]? = some (.cells #[.int .i64 o.who, .int .i64 o.seq, .int .i64 o.kind, .int .i64 o.to_, .int .i64 o.n] 54 (0, 0)) := by
          rw [hY]; (repeat (first | with_reducible refine blk_ext ?_ | with_reducible apply blk_drew)); refine blk_alloc ?_; (repeat (first | with_reducible refine blk_ext ?_ | with_reducible apply blk_drew)); exact alloc_last (by simp)
        have hcY : Chg [g] w Y := by rw [hY]; exact zq1
        have HCY := hid hcY
        have hsY := hcY.size
        have HB3 := hid (show ∀ b ∈ B3 ++ B4, b < w.heap.size ∧ b ≠ g ∧ b ≠ T from fun b hb => by
          have hb' : b ∈ B3 ++ (B4 ++ B5) := by simp only [List.mem_append] at hb ⊢; rcases hb with hb | hb <;> simp [hb]
          refine ⟨HX.out.lt b (by simp only [List.mem_append] at hb' ⊢; exact .inr hb'), fun e => ?_, fun e => HTB.out (by rw [← e]; simp only [List.mem_append] at hb' ⊢; exact .inr hb')⟩
          have := List.nodup_append.1 HX.out.nd
          exact this.2.2 g (by simp) b hb' e.symm)
        have lOY := lt_blk hOY
        clear hY r1 hcY x0 x1 x2 x3 x4 z1 z2 z3 z4 cT0 cT1 cT2 zT1 zT2
        have hsend := (send_c (setC c k { y with seq := o.seq }) ⟨some ⟨g, 0, none⟩, c1, a3, c3, a4, c4, a5, c5⟩ T s ⟨0, 1, { y with at_ := y.at_ + (2 * o.to_ - 1), seq := o.seq, last := 1 }, 0⟩ nx xs [g] B3 B4 B5 Y hTY hxY (fun hb => (HB3.out T hb).2.2 rfl) HXS.out HNX.out nx0 nx1 (by omega))
        rw [← HSO.out] at hsend
        refine hsend.mono ?_
        clear hsend
        rintro e Y2 ⟨B3', rfl, hcx, hch, hb3⟩
        have hT2 := (hch.block T (lt_blk hTY) (fun hb => (HB3.out T hb).2.2 rfl)).trans hTY
        rw [show (setC c k { y with seq := o.seq }).wk.length = c.wk.length from List.length_set ..] at hT2
        have hO2 := (hch.block (w.heap.size + 1) lOY (fun hb => by have := (HB3.out _ hb).1; omega)).trans hOY
        have u3 : (nx == 5000) = true := by simpa using u2
        rw [u3, cond_true] at hcx
        rw [u3]
        obtain ⟨_, lg2, hk2, hyc2, hfr2⟩ := hcx.wkAt (set_at HY.out)
        have x4 := hyc2 4 _ rfl
        have z4 := hfr2 (k * 5 + 4)
        have HT2 := hid hT2
        have HCX := hid hcx
        have HCH := hid ((HCY.out.mono (B' := [g] ++ (B3 ++ B4)) (fun b hb => by simp at hb; simp [hb])).trans (hch.mono (fun b hb => by simp only [List.mem_append] at hb ⊢; exact .inr hb)))
        have HB3' := hid (show ∀ b ∈ [g] ++ B3', b ∈ [g] ++ B3 ∨ w.heap.size ≤ b from fun b hb => by
          rcases List.mem_append.1 hb with hb | hb
          · exact .inl (List.mem_append_left _ hb)
          · exact (hb3 b hb).imp (fun h9 => List.mem_append_right _ h9) (fun h9 => Nat.le_trans hsY h9))
        have cO0 := (cell_blk hO2 0).trans (show _ = some (Value.int .i64 o.who) from rfl)
        have cO3 := (cell_blk hO2 3).trans (show _ = some (Value.int .i64 o.to_) from rfl)
        have cO4 := (cell_blk hO2 4).trans (show _ = some (Value.int .i64 o.n) from rfl)
        have lO2 := lt_blk hO2
        have cT1 := (cell_blk hT2 1).trans (show _ = some (Value.slice (some ⟨g, 0, none⟩) c.wk.length c1) from rfl)
        have zT1 := frozen_blk hT2 1
        have lT2 := lt_blk hT2
        have nOg : g ≠ w.heap.size + 1 := by omega
        have nOT : T ≠ w.heap.size + 1 := by omega
        have nOg' : w.heap.size + 1 ≠ g := by omega
        have nOT' : w.heap.size + 1 ≠ T := by omega
        clear hT2 hcx hch hyc2 hfr2 hTY hxY hO2 hOY hb3
        go_wp2_with (fail)
        go_ret
        have r2 := CX.wkSet2 HCX.out hk 4 (.int .i64 2) (y' := { y with seq := o.seq, last := 2 }) (by decide) rfl
        refine ⟨⟨some ⟨g, 0, none⟩, c1, a3, c3, a4, c4, a5, c5⟩, [g], B3', rfl, ?_, r2.of zq0, (HCH.out.mono (fun b hb => List.mem_cons_of_mem _ hb)).trans zq1, HB3'.out⟩
        simp only [iLast, setC, List.length_set]; exact (by repeat (first | with_reducible exact HT2.out | with_reducible apply blk_drew | with_reducible refine blk_set ?_ | (with_reducible refine blk_other ?_ (by first | assumption | omega)) | with_reducible refine blk_ext ?_ | with_reducible refine blk_alloc ?_))
      · have E := hid (show iDo m c o = ({ postC c o.to_ ⟨0, 1, { y with at_ := y.at_ + (2 * o.to_ - 1), seq := o.seq, last := 1 }, 0⟩ with wk := wlkOut c.wk o.who }, 1) by rw [EK.out]; simp only [iStep, HPC.out, v1, v2, HNA.out, u2, if_false, HID.out])
        rw [E.out]
        go_enter Try.func67, Try.ntmps67
        go_wp2_with (fail)
        with_reducible refine wp_region_ext (by kernel_rfl) (by kernel_rfl) ?_
        repeat (go_big_quiet_step ((first | (go_at_call 86; first | exact quiet_call (place_c _ _ _ _ _ _ (Re.of (Hid.out (by assumption)) zq0) (by omega)) | exact quiet_call2 (place_c _ _ _ _ _ _ (Re.of (Hid.out (by assumption)) zq0) (by omega))))))
        refine wpQuiet_nil ?_
        rintro _ ⟨tq, rfl⟩
        go_wp2_with (fail)
        with_reducible refine wp_region_ext (by kernel_rfl) (by kernel_rfl) ?_
        repeat (go_big_quiet_step (fail))
        refine wpQuiet_nil ?_
        rintro _ ⟨tq, rfl⟩
        go_wp2_with (fail)
        with_reducible refine wp_region_ext (by kernel_rfl) (by kernel_rfl) ?_
        repeat (go_big_quiet_step (fail))
        refine wpQuiet_nil ?_
        rintro _ ⟨tq, rfl⟩
        go_wp2_with (fail)
        with_reducible refine wp_region_ext (by kernel_rfl) (by kernel_rfl) ?_
        repeat (go_big_quiet_step ((first | (go_at_call 88; first | exact quiet_same (toward_c _ _ (by omega) (by omega)) | exact quiet_same2 (toward_c _ _ (by omega) (by omega))))))
        refine wpQuiet_nil ?_
        rintro _ ⟨tq, rfl⟩
        go_wp2_with (first | (go_at_call 78; refine (iPlcCell_g _ _ _ _ (by assumption)).mono ?_; rintro e w' ⟨rfl, t, rfl⟩))
        refine calls_gen fun Y hY => ?_
        have r1 := HX.out.wkSet HY.out 3 (.int .i64 o.seq) (y' := { y with seq := o.seq }) (by decide) rfl
        have hxY : CX Y (setC c k { y with seq := o.seq }) ⟨some ⟨g, 0, none⟩, c1, a3, c3, a4, c4, a5, c5⟩ [g] B3 B4 B5 := by rw [hY]; exact r1.of zq0
        have hTY : Y.heap[T]? = some (.cells #[.int .i64 c.cell, .slice (some ⟨g, 0, none⟩) (setC c k { y with seq := o.seq }).wk.length c1, .int .i64 c.ground, .slice a3 c.outs.length c3, .slice a4 c.next.length c4, .slice a5 c.ins.length c5] 37 (0, 0)) := by
          rw [show (setC c k { y with seq := o.seq }).wk.length = c.wk.length from List.length_set .., hY]; exact (by repeat (first | with_reducible exact HT.out | with_reducible apply blk_drew | with_reducible refine blk_set ?_ | (with_reducible refine blk_other ?_ (by first | assumption | omega)) | with_reducible refine blk_ext ?_ | with_reducible refine blk_alloc ?_))
        have hOY : Y.heap[w.heap.size + 1]? = some (.cells #[.int .i64 o.who, .int .i64 o.seq, .int .i64 o.kind, .int .i64 o.to_, .int .i64 o.n] 54 (0, 0)) := by
          rw [hY]; (repeat (first | with_reducible refine blk_ext ?_ | with_reducible apply blk_drew)); refine blk_alloc ?_; (repeat (first | with_reducible refine blk_ext ?_ | with_reducible apply blk_drew)); exact alloc_last (by simp)
        have hcY : Chg [g] w Y := by rw [hY]; exact zq1
        have HCY := hid hcY
        have hsY := hcY.size
        have HB3 := hid (show ∀ b ∈ B3 ++ B4, b < w.heap.size ∧ b ≠ g ∧ b ≠ T from fun b hb => by
          have hb' : b ∈ B3 ++ (B4 ++ B5) := by simp only [List.mem_append] at hb ⊢; rcases hb with hb | hb <;> simp [hb]
          refine ⟨HX.out.lt b (by simp only [List.mem_append] at hb' ⊢; exact .inr hb'), fun e => ?_, fun e => HTB.out (by rw [← e]; simp only [List.mem_append] at hb' ⊢; exact .inr hb')⟩
          have := List.nodup_append.1 HX.out.nd
          exact this.2.2 g (by simp) b hb' e.symm)
        have lOY := lt_blk hOY
        clear hY r1 hcY x0 x1 x2 x3 x4 z1 z2 z3 z4 cT0 cT1 cT2 zT1 zT2
        have hsend := (send_c (setC c k { y with seq := o.seq }) ⟨some ⟨g, 0, none⟩, c1, a3, c3, a4, c4, a5, c5⟩ T s ⟨0, 1, { y with at_ := y.at_ + (2 * o.to_ - 1), seq := o.seq, last := 1 }, 0⟩ nx xs [g] B3 B4 B5 Y hTY hxY (fun hb => (HB3.out T hb).2.2 rfl) HXS.out HNX.out nx0 nx1 (by omega))
        rw [← HSO.out] at hsend
        refine hsend.mono ?_
        clear hsend
        rintro e Y2 ⟨B3', rfl, hcx, hch, hb3⟩
        have hT2 := (hch.block T (lt_blk hTY) (fun hb => (HB3.out T hb).2.2 rfl)).trans hTY
        rw [show (setC c k { y with seq := o.seq }).wk.length = c.wk.length from List.length_set ..] at hT2
        have hO2 := (hch.block (w.heap.size + 1) lOY (fun hb => by have := (HB3.out _ hb).1; omega)).trans hOY
        have u3 : (nx == 5000) = false := by simpa using u2
        rw [u3, cond_false] at hcx
        rw [u3]
        have hre2 : Re Y2 (.sl sWlk) [.slice (some ⟨g, 0, none⟩) c.wk.length c1] (.l ((c.wk.set k { y with seq := o.seq }).map Wlk.dat)) := by
          have h7 := hcx.re.r1
          rw [show (postC (setC c k { y with seq := o.seq }) o.to_ ⟨0, 1, { y with at_ := y.at_ + (2 * o.to_ - 1), seq := o.seq, last := 1 }, 0⟩).wk.length = c.wk.length from List.length_set ..] at h7
          exact h7
        have HRe2 := hid hre2
        have HTB2 := hid (show ∀ b ∈ B3' ++ (B4 ++ B5), b ≠ T from fun b hb e => by
          rcases List.mem_append.1 hb with h9 | h9
          · rcases hb3 b h9 with h9 | h9
            · exact (HB3.out b (by simp [h9])).2.2 e
            · have := lt_blk hTY; omega
          · exact HTB.out (by rw [← e]; simp only [List.mem_append] at h9 ⊢; exact .inr (.inr h9)))
        have HT2 := hid hT2
        have HCX := hid hcx
        have HCH := hid ((HCY.out.mono (B' := [g] ++ (B3 ++ B4)) (fun b hb => by simp at hb; simp [hb])).trans (hch.mono (fun b hb => by simp only [List.mem_append] at hb ⊢; exact .inr hb)))
        have HB3' := hid (show ∀ b ∈ [g] ++ B3', b ∈ [g] ++ B3 ∨ w.heap.size ≤ b from fun b hb => by
          rcases List.mem_append.1 hb with hb | hb
          · exact .inl (List.mem_append_left _ hb)
          · exact (hb3 b hb).imp (fun h9 => List.mem_append_right _ h9) (fun h9 => Nat.le_trans hsY h9))
        have cO0 := (cell_blk hO2 0).trans (show _ = some (Value.int .i64 o.who) from rfl)
        have cO3 := (cell_blk hO2 3).trans (show _ = some (Value.int .i64 o.to_) from rfl)
        have cO4 := (cell_blk hO2 4).trans (show _ = some (Value.int .i64 o.n) from rfl)
        have lO2 := lt_blk hO2
        have cT1 := (cell_blk hT2 1).trans (show _ = some (Value.slice (some ⟨g, 0, none⟩) c.wk.length c1) from rfl)
        have zT1 := frozen_blk hT2 1
        have lT2 := lt_blk hT2
        have nOg : g ≠ w.heap.size + 1 := by omega
        have nOT : T ≠ w.heap.size + 1 := by omega
        have nOg' : w.heap.size + 1 ≠ g := by omega
        have nOT' : w.heap.size + 1 ≠ T := by omega
        have dT1 : ∀ t, (ext Y2.drew t).cell? ⟨T, 1, none⟩ = some (.slice (some ⟨g, 0, none⟩) c.wk.length c1) := fun t => (ext_cell' _ _ _ _ lT2).trans cT1
        have dZ1 : ∀ t, (ext Y2.drew t).frozen? ⟨T, 1, none⟩ = false := fun t => (ext_frozen' _ _ _ _ lT2).trans zT1
        obtain ⟨R, hR⟩ : ∃ R, Y2.heap.size + 1 = R := ⟨_, rfl⟩
        have hTR : T ≠ R := by omega
        have hRT : R ≠ T := by omega
        have hOR : w.heap.size + 1 ≠ R := by omega
        have HRX := hid hR
        clear hT2 hcx hch hTY hxY hO2 hOY hb3 hR hre2
        go_wp2_with (fail)
        try go_wp2_with (first
            | (go_at_call 110; (with_reducible refine (iWlkOut_x (c.wk.set k { y with seq := o.seq }) _ _ _ o.who _ (HRe2.out.of zq0) (by omega)).mono ?_); rw [HOS.out]; rintro e w' ⟨p5, q5, B5', rfl, ⟨t5, rfl⟩, hr5, hb5⟩; have X5 := hid hr5; have Y5 := hid hb5; clear hr5 hb5)
            | (
              with_reducible refine wp_region_UR (R) (by kernel_rfl) (by decide +kernel) (by decide +kernel) rfl rfl ?_
              simp only [List.dropLast_cons_cons, List.dropLast_singleton]
              repeat (first
                | (refine mix_pure rfl ?_; (first | go_big_quiet_skip | (go_big_quiet_want; go_big_quiet_op; go_big_quiet_on)); refine wpQuiet_nil ?_)
                | (refine mix_skip (by rfl) ?_; (try simp only [Act.put, List.setIfInBounds_toArray, List.set_cons_zero, List.set_cons_succ]))
                | (refine mix_mk rfl (by rfl) (fun K hK => ?_); (first | (go_simp; first | (go_at_call 110; (with_reducible refine (iWlkOut_x (c.wk.set k { y with seq := o.seq }) _ _ _ o.who _ (HRe2.out.of zq0) (by omega)).mono ?_); rw [HOS.out]; rintro e w' ⟨p5, q5, B5', rfl, ⟨t5, rfl⟩, hr5, hb5⟩; have X5 := hid hr5; have Y5 := hid hb5; clear hr5 hb5) | skip)); (show K _ _); refine hK _ _ (extR_of (by repeat (first | with_reducible exact Chg.refl _ _ | with_reducible apply Chg.drew | with_reducible apply Chg.drewl | with_reducible refine Chg.turn (by simp) | with_reducible refine Chg.both ?_ (by simp) | (with_reducible refine Chg.set ?_ (by simp) _) | with_reducible apply Chg.alloc | with_reducible apply Chg.ext | with_reducible refine Chg.trans ?_ (Hid.out (by assumption))))) ?_; clear hK K; (try simp only [Act.put, List.setIfInBounds_toArray, List.set_cons_zero, List.set_cons_succ])))
              refine mixN_nil (fun K hK => ?_)
              go_simp
              (show K _ _)
              refine hK _ _ ?_
              clear hK K
              (try simp only [Act.put, List.setIfInBounds_toArray, List.set_cons_zero, List.set_cons_succ])))
        go_ret
        have hx3 := (HCX.out.setWk (a1 := p5) (c1 := q5) (Chg.of_ext (show Ext Y2 (ext Y2.drew t5) from zq0) _) X5.out (fun b hb => .inr (Y5.out b hb)))
        have hx4 := hx3.chg (B' := [T]) ((Chg.refl [T] (ext Y2.drew t5)).set (b := T) (o := 1) (by simp) (.slice p5 (wlkOut c.wk o.who).length q5)) (fun b hb => by
          simp only [List.mem_singleton]
          intro e
          rcases List.mem_append.1 hb with h9 | h9
          · have h8 := Y5.out b h9; have h7 : Y2.drew.heap.size = Y2.heap.size := rfl; omega
          · exact HTB2.out b h9 e)
        refine ⟨⟨p5, q5, a3, c3, a4, c4, a5, c5⟩, B5', B3', rfl, ?_, ?_, (HCH.out.mono (fun b hb => List.mem_cons_of_mem _ hb)).trans zq1, fun b hb => ?_⟩
        · simp only [postC, List.length_set]; exact (by (repeat (first | with_reducible apply blk_drew | (with_reducible refine blk_other ?_ (by first | assumption | omega)) | with_reducible refine blk_ext ?_ | with_reducible refine blk_alloc ?_)); apply blk_set2; (repeat (first | with_reducible exact HT2.out | with_reducible apply blk_drew | (with_reducible refine blk_other ?_ (by first | assumption | omega)) | with_reducible refine blk_ext ?_ | with_reducible refine blk_alloc ?_)); rfl)
        · exact (hx4.of zq0).flat rfl rfl rfl rfl
        · rcases List.mem_append.1 hb with h9 | h9
          · have h8 := Y5.out b h9
            have h7 : Y2.drew.heap.size = Y2.heap.size := rfl
            have h6 := HCH.out.size
            exact .inr (by omega)
          · exact HB3'.out b (List.mem_append_right _ h9)
end Go.Proofs.Ytablgohncilmfaa

namespace Go.Proofs.Ytablgohncilmfaa
open Go.RowKit
set_option linter.unusedSimpArgs false
set_option linter.unusedVariables false

theorem gv_last {c : Cll} {k : Nat} {y y1 : Wlk} {to n : Int} (h : Asc c.wk) (hy : c.wk[k]? = some y) (hid' : y.id = y1.id) (hne : to ≠ y1.id) :
    ∃ v code y2, gvP (setC c k y1) k y1 to n = (v, code) ∧ v.wk[k]? = some y2 ∧ iGive c k y1 to n = (setC v k { y2 with last := code }, code) ∧ v.cell = c.cell ∧ v.wk.length = c.wk.length ∧ v.ground = c.ground ∧ v.outs = c.outs ∧ v.next = c.next ∧ v.ins = c.ins := by
  have hk := (List.getElem?_eq_some_iff.1 hy).1
  have h1 : Asc (setC c k y1).wk := asc_set h hy hid'
  have hy1 : (setC c k y1).wk[k]? = some y1 := set_at hy
  have base : ∀ code : Int, iLast c k y1 code = (setC (setC c k y1) k { y1 with last := code }, code) := fun code => by simp only [iLast, setC, List.set_set]
  have lw : (setC c k y1).wk.length = c.wk.length := List.length_set ..
  rcases has_or c.wk to with hno | ⟨j, z, hj, hjid⟩
  · have hno1 : ∀ u ∈ (setC c k y1).wk, u.id ≠ to := fun u hu => by
      rcases List.mem_or_eq_of_mem_set hu with hu | rfl
      · exact hno u hu
      · exact Ne.symm hne
    exact ⟨setC c k y1, 4, y1, by rw [gvP, if_pos (get_no hno1).2.1], hy1, by rw [iGive, if_pos (get_no hno).2.1]; exact base 4, rfl, lw, rfl, rfl, rfl, rfl⟩
  · have hjk : k ≠ j := fun e => by
      subst e
      rw [hy] at hj
      obtain rfl := Option.some.inj hj
      omega
    have hj1 : (setC c k y1).wk[j]? = some z := by simp only [setC]; rw [List.getElem?_set_ne hjk]; exact hj
    obtain ⟨g1, g2, g3⟩ := get_at h hj
    obtain ⟨f1, f2, f3⟩ := get_at h1 hj1
    rw [hjid] at g1 g2 g3 f1 f2 f3
    simp only [gvP, iGive, g1, g2, g3, f1, f2, f3, Bool.true_eq_false, if_false, Int.toNat_natCast]
    by_cases u1 : y1.coins < n
    · exact ⟨setC c k y1, 3, y1, by rw [if_pos u1], hy1, by rw [if_pos u1]; exact base 3, rfl, lw, rfl, rfl, rfl, rfl⟩
    · by_cases u2 : z.coins + n > 99
      · exact ⟨setC c k y1, 5, y1, by rw [if_neg u1, if_pos u2], hy1, by rw [if_neg u1, if_pos u2]; exact base 5, rfl, lw, rfl, rfl, rfl, rfl⟩
      · refine ⟨setC (setC (setC c k y1) k { y1 with coins := y1.coins - n }) j { z with coins := z.coins + n }, 1, { y1 with coins := y1.coins - n }, by rw [if_neg u1, if_neg u2], ?_, ?_, rfl, by simp [setC], rfl, rfl, rfl, rfl⟩
        · simp only [setC]; rw [List.getElem?_set_ne (Ne.symm hjk), List.getElem?_set_self (by simpa using hk)]
        · rw [if_neg u1, if_neg u2]
          simp only [iLast, setC, List.set_set]
          rw [List.set_comm _ _ hjk]
          simp only [List.set_set]
set_option maxRecDepth 100000 in
set_option maxHeartbeats 8000000 in
theorem do_give (m : Mp) (c : Cll) (h : CllH) (T : Nat) (o : Ord) (B1 B3 B4 B5 : List Nat) (w : World) (k : Nat) (y : Wlk)
    (hT : w.heap[T]? = some (.cells #[.int .i64 c.cell, .slice h.a1 c.wk.length h.c1, .int .i64 c.ground, .slice h.a3 c.outs.length h.c3, .slice h.a4 c.next.length h.c4, .slice h.a5 c.ins.length h.c5] 37 (0, 0))) (hx : CX w c h B1 B3 B4 B5) (hTB : T ∉ B1 ++ (B3 ++ (B4 ++ B5))) (F : CllF m c) (ho : ordOk o = true) (hl : c.wk.length ≤ 1048576)
    (hy : c.wk[k]? = some y) (hid' : y.id = o.who) (hs : y.seq < o.seq) (hkk : o.kind = 2) :
    Calls Try.prog 67 #[.pointer (some ⟨T, 0, none⟩), .agg #[.int .i64 m.c, .int .i64 m.w], .agg #[.int .i64 o.who, .int .i64 o.seq, .int .i64 o.kind, .int .i64 o.to_, .int .i64 o.n]] w (DoR w T B1 B3 B4 B5 (iDo m c o).1 (iDo m c o).2) := by
  obtain ⟨a1, c1, a3, c3, a4, c4, a5, c5⟩ := h
  obtain ⟨g, rfl⟩ : ∃ g, a1 = some (⟨g, 0, none⟩ : Addr) := by
    obtain ⟨g, cur, y, e1, _⟩ := hx.x1.at (k := 5) (by decide) (fun _ => rfl) (List.getElem?_eq_some_iff.1 hy).1
    exact ⟨g, e1⟩
  obtain ⟨rfl, lg, hk, hyc, hfr⟩ := hx.wkAt hy
  have hTg : T ≠ g := fun e => hTB (by simp [e])
  have hgT : g ≠ T := Ne.symm hTg
  have HTB := hid hTB
  have HX := hid hx
  have HRe := hid hx.re.r1
  have HY := hid hy
  have HT := hid hT
  have HF := hid F
  have lT := lt_blk hT
  have cT0 : w.cell? ⟨T, 0, none⟩ = some (.int .i64 c.cell) := (cell_blk hT 0).trans rfl
  have cT1 : w.cell? ⟨T, 1, none⟩ = some (.slice (some ⟨g, 0, none⟩) c.wk.length c1) := (cell_blk hT 1).trans rfl
  have cT2 : w.cell? ⟨T, 2, none⟩ = some (.int .i64 c.ground) := (cell_blk hT 2).trans rfl
  have zT1 := frozen_blk hT 1
  have zT2 := frozen_blk hT 2
  have x0 := hyc 0 _ rfl
  have x1 := hyc 1 _ rfl
  have x2 := hyc 2 _ rfl
  have x3 := hyc 3 _ rfl
  have x4 := hyc 4 _ rfl
  rw [Nat.add_zero] at x0
  have z1 := hfr (k * 5 + 1)
  have z2 := hfr (k * 5 + 2)
  have z3 := hfr (k * 5 + 3)
  have z4 := hfr (k * 5 + 4)
  obtain ⟨g1, g2, g3⟩ := get_at F.asc hy
  rw [hid'] at g1 g2 g3
  have hlen := hx.x1.max
  simp only [maxLen] at hlen
  have H1 : wlkPlace c.wk o.who = (k : Int) := g3
  obtain ⟨⟨ya0, ya1⟩, ⟨yi0, yi1⟩, ⟨yc0, yc1⟩, ⟨ys0, ys1⟩, yl0, yl1⟩ := wlk_bd (F.wk y (List.mem_of_getElem? hy))
  have p1 : decide ((k : Int) < 0) = false := by simp
  obtain ⟨_, ⟨os0, os1⟩, _, ok1, ok2, ok5, ⟨on0, on1⟩, onp⟩ := ord_bd ho
  have t1 : ¬ o.seq < y.seq := by omega
  have t2 : ¬ o.seq = y.seq := by omega
  have t3 : (o.seq == y.seq) = false := by simpa using t2
  have n1 := onp (by omega) (by omega)
  have hne := ok2 hkk
  have hcb : ∀ x ∈ (setC c k { y with seq := o.seq }).wk, 0 ≤ x.coins ∧ x.coins ≤ 99 := fun x hx => by
    rcases List.mem_or_eq_of_mem_set hx with hx | rfl
    · exact (wlk_bd (F.wk x hx)).2.2.1
    · exact ⟨yc0, yc1⟩
  have HCB := hid hcb
  obtain ⟨v, code, y2, hv, hvk, hvi, v1, v2, v3, v4, v5, v6⟩ := gv_last (c := c) (k := k) (y := y) (y1 := { y with seq := o.seq }) (to := o.to_) (n := o.n) F.asc hy rfl (by simp only; omega)
  have E := hid (show iDo m c o = (setC v k { y2 with last := code }, code) by rw [← hvi]; simp [iDo, g1, g2, g3, t1, t2, iKind, hkk])
  have HV := hid hv
  have HVK := hid hvk
  have HV6 := hid (show v.cell = c.cell ∧ v.wk.length = c.wk.length ∧ v.ground = c.ground ∧ v.outs = c.outs ∧ v.next = c.next ∧ v.ins = c.ins from ⟨v1, v2, v3, v4, v5, v6⟩)
  rw [E.out]
  have q1 : (o.kind == 1) = false := by rw [hkk]; rfl
  have q2 : (o.kind == 2) = true := by rw [hkk]; rfl
  clear g1 g2 g3 hT hx hTB hyc hfr hy F t2 ok1 ok2 ok5 onp hkk hcb hv hvk hvi v1 v2 v3 v4 v5 v6
  go_enter Try.func67, Try.ntmps67
  go_wp2_with (fail)
  with_reducible refine wp_region_ext (by kernel_rfl) (by kernel_rfl) ?_
  repeat (go_big_quiet_step ((first | (go_at_call 86; first | exact quiet_call (place_c _ _ _ _ _ _ (Re.of (Hid.out (by assumption)) zq0) (by omega)) | exact quiet_call2 (place_c _ _ _ _ _ _ (Re.of (Hid.out (by assumption)) zq0) (by omega))))))
  refine wpQuiet_nil ?_
  rintro _ ⟨tq, rfl⟩
  go_wp2_with (fail)
  with_reducible refine wp_region_ext (by kernel_rfl) (by kernel_rfl) ?_
  repeat (go_big_quiet_step (fail))
  refine wpQuiet_nil ?_
  rintro _ ⟨tq, rfl⟩
  go_wp2_with (fail)
  with_reducible refine wp_region_ext (by kernel_rfl) (by kernel_rfl) ?_
  repeat (go_big_quiet_step (fail))
  refine wpQuiet_nil ?_
  rintro _ ⟨tq, rfl⟩
  go_wp2_with (fail)
  refine calls_gen fun Y hY => ?_
  have r1 := HX.out.wkSet HY.out 3 (.int .i64 o.seq) (y' := { y with seq := o.seq }) (by decide) rfl
  have hxY : CX Y (setC c k { y with seq := o.seq }) ⟨some ⟨g, 0, none⟩, c1, a3, c3, a4, c4, a5, c5⟩ [g] B3 B4 B5 := by rw [hY]; exact r1.of zq0
  have hTY : Y.heap[T]? = some (.cells #[.int .i64 c.cell, .slice (some ⟨g, 0, none⟩) (setC c k { y with seq := o.seq }).wk.length c1, .int .i64 c.ground, .slice a3 c.outs.length c3, .slice a4 c.next.length c4, .slice a5 c.ins.length c5] 37 (0, 0)) := by
    rw [show (setC c k { y with seq := o.seq }).wk.length = c.wk.length from List.length_set .., hY]; exact (by repeat (first | with_reducible exact HT.out | with_reducible apply blk_drew | with_reducible refine blk_set ?_ | (with_reducible refine blk_other ?_ (by first | assumption | omega)) | with_reducible refine blk_ext ?_ | with_reducible refine blk_alloc ?_))
  have hcY : Chg [g] w Y := by rw [hY]; exact zq1
  have HCY := hid hcY
  clear hY r1 hcY x0 x1 x2 x3 x4 z1 z2 z3 z4 cT0 cT1 cT2 zT1 zT2
  refine (give_c (setC c k { y with seq := o.seq }) g c1 c3 c4 c5 T k a3 a4 a5 { y with seq := o.seq } o [g] B3 B4 B5 Y hTY hxY (by simpa using hTg) (set_at HY.out) (by simp only; omega) HCB.out n1 on1 (by simp only [setC, List.length_set]; exact hl)).mono ?_
  rw [HV.out]
  rintro e Y2 ⟨rfl, hcx, hch⟩
  have hT2 := (hch.block T (lt_blk hTY) (by simpa using hTg)).trans hTY
  rw [show (setC c k { y with seq := o.seq }).wk.length = c.wk.length from List.length_set .., ← HV6.out.1, ← HV6.out.2.1, ← HV6.out.2.2.1, ← HV6.out.2.2.2.1, ← HV6.out.2.2.2.2.1, ← HV6.out.2.2.2.2.2] at hT2
  obtain ⟨_, lg2, hk2, hyc2, hfr2⟩ := hcx.wkAt HVK.out
  have x4 := hyc2 4 _ rfl
  have z4 := hfr2 (k * 5 + 4)
  have HT2 := hid hT2
  have HCX := hid hcx
  have HCH := hid (HCY.out.trans hch)
  clear hT2 hcx hch hyc2 hfr2 hTY hxY
  go_wp2_with (fail)
  go_ret
  have r2 := HCX.out.wkSet HVK.out 4 (.int .i64 code) (y' := { y2 with last := code }) (by decide) rfl
  refine ⟨⟨some ⟨g, 0, none⟩, c1, a3, c3, a4, c4, a5, c5⟩, [g], B3, rfl, ?_, r2.of zq0, ?_, fun b hb => .inl hb⟩
  · simp only [setC, List.length_set]; exact (by repeat (first | with_reducible exact HT2.out | with_reducible apply blk_drew | with_reducible refine blk_set ?_ | (with_reducible refine blk_other ?_ (by first | assumption | omega)) | with_reducible refine blk_ext ?_ | with_reducible refine blk_alloc ?_))
  · exact (HCH.out.mono (by simp)).trans zq1
end Go.Proofs.Ytablgohncilmfaa

namespace Go.Proofs.Ytablgohncilmfaa
open Go.RowKit
set_option linter.unusedSimpArgs false
set_option linter.unusedVariables false

theorem iPlcEdge_g (m : Mp) (p s : Int) (b : Bool) (w : World) (h : Hid (plcEdge m p s = b)) : Calls Try.prog 39 #[.agg #[.int .i64 m.c, .int .i64 m.w], .int .i64 p, .int .i64 s] w fun e w' => e = .returned (.bool b) ∧ Ext w w' := by
  have := iPlcEdge_c m p s w
  rwa [h.out] at this
set_option maxRecDepth 100000 in
set_option maxHeartbeats 8000000 in
theorem do_throw (m : Mp) (c : Cll) (h : CllH) (T : Nat) (o : Ord) (B1 B3 B4 B5 : List Nat) (w : World) (k : Nat) (y : Wlk)
    (hT : w.heap[T]? = some (.cells #[.int .i64 c.cell, .slice h.a1 c.wk.length h.c1, .int .i64 c.ground, .slice h.a3 c.outs.length h.c3, .slice h.a4 c.next.length h.c4, .slice h.a5 c.ins.length h.c5] 37 (0, 0))) (hx : CX w c h B1 B3 B4 B5) (hTB : T ∉ B1 ++ (B3 ++ (B4 ++ B5))) (F : CllF m c) (ho : ordOk o = true) (hl : c.wk.length ≤ 1048576)
    (hy : c.wk[k]? = some y) (hid' : y.id = o.who) (hs : y.seq < o.seq) (hkk : o.kind = 5) :
    Calls Try.prog 67 #[.pointer (some ⟨T, 0, none⟩), .agg #[.int .i64 m.c, .int .i64 m.w], .agg #[.int .i64 o.who, .int .i64 o.seq, .int .i64 o.kind, .int .i64 o.to_, .int .i64 o.n]] w (DoR w T B1 B3 B4 B5 (iDo m c o).1 (iDo m c o).2) := by
  obtain ⟨a1, c1, a3, c3, a4, c4, a5, c5⟩ := h
  obtain ⟨g, rfl⟩ : ∃ g, a1 = some (⟨g, 0, none⟩ : Addr) := by
    obtain ⟨g, cur, y, e1, _⟩ := hx.x1.at (k := 5) (by decide) (fun _ => rfl) (List.getElem?_eq_some_iff.1 hy).1
    exact ⟨g, e1⟩
  obtain ⟨rfl, lg, hk, hyc, hfr⟩ := hx.wkAt hy
  have hTg : T ≠ g := fun e => hTB (by simp [e])
  have hgT : g ≠ T := Ne.symm hTg
  have HTB := hid hTB
  have HX := hid hx
  have HRe := hid hx.re.r1
  have HY := hid hy
  have HT := hid hT
  have HF := hid F
  have lT := lt_blk hT
  have cT0 : w.cell? ⟨T, 0, none⟩ = some (.int .i64 c.cell) := (cell_blk hT 0).trans rfl
  have cT1 : w.cell? ⟨T, 1, none⟩ = some (.slice (some ⟨g, 0, none⟩) c.wk.length c1) := (cell_blk hT 1).trans rfl
  have cT2 : w.cell? ⟨T, 2, none⟩ = some (.int .i64 c.ground) := (cell_blk hT 2).trans rfl
  have zT1 := frozen_blk hT 1
  have zT2 := frozen_blk hT 2
  have x0 := hyc 0 _ rfl
  have x1 := hyc 1 _ rfl
  have x2 := hyc 2 _ rfl
  have x3 := hyc 3 _ rfl
  have x4 := hyc 4 _ rfl
  rw [Nat.add_zero] at x0
  have z1 := hfr (k * 5 + 1)
  have z2 := hfr (k * 5 + 2)
  have z3 := hfr (k * 5 + 3)
  have z4 := hfr (k * 5 + 4)
  obtain ⟨g1, g2, g3⟩ := get_at F.asc hy
  rw [hid'] at g1 g2 g3
  have hlen := hx.x1.max
  simp only [maxLen] at hlen
  have H1 : wlkPlace c.wk o.who = (k : Int) := g3
  obtain ⟨⟨ya0, ya1⟩, ⟨yi0, yi1⟩, ⟨yc0, yc1⟩, ⟨ys0, ys1⟩, yl0, yl1⟩ := wlk_bd (F.wk y (List.mem_of_getElem? hy))
  have p1 : decide ((k : Int) < 0) = false := by simp
  obtain ⟨_, ⟨os0, os1⟩, _, ok1, ok2, ok5, ⟨on0, on1⟩, onp⟩ := ord_bd ho
  have t1 : ¬ o.seq < y.seq := by omega
  have t2 : ¬ o.seq = y.seq := by omega
  have t3 : (o.seq == y.seq) = false := by simpa using t2
  have n1 := onp (by omega) (by omega)
  obtain ⟨to0, to1⟩ := ok5 hkk
  obtain ⟨s, hso⟩ : ∃ s : Nat, o.to_ = (s : Int) := ⟨o.to_.toNat, by omega⟩
  have hs2 : s < 2 := by omega
  obtain ⟨xs, nx, ix, hxs, hnx, _, hpl, ⟨nx0, nx1⟩, _, hxl, _⟩ := F.side s hs2
  have HXS := hid hxs
  have HNX := hid hnx
  have hna : nextAt c o.to_ = nx := by rw [hso]; exact nextAt_eq hnx
  have EK := hid (show iDo m c o = iThrow m c k { y with seq := o.seq } o.to_ o.n by simp [iDo, g1, g2, g3, t1, t2, iKind, hkk])
  have HNA := hid hna
  have HSO := hid hso
  have q1 : (o.kind == 1) = false := by rw [hkk]; rfl
  have q2 : (o.kind == 2) = false := by rw [hkk]; rfl
  have q3 : (o.kind == 3) = false := by rw [hkk]; rfl
  have q4 : (o.kind == 4) = false := by rw [hkk]; rfl
  have q5 : (o.kind == 5) = true := by rw [hkk]; rfl
  clear g1 g2 g3 hT hx hTB hyc hfr hy F t2 ok1 ok2 ok5 onp hkk hxs hnx hna hso
  cases r1 : plcEdge m y.at_ o.to_ with
  | false =>
    have R1 := hid r1
    have E := hid (show iDo m c o = iLast c k { y with seq := o.seq } 7 by rw [EK.out]; simp only [iThrow, r1, if_true])
    clear r1
    rw [E.out]
    go_enter Try.func67, Try.ntmps67
    go_wp2_with (fail)
    with_reducible refine wp_region_ext (by kernel_rfl) (by kernel_rfl) ?_
    repeat (go_big_quiet_step ((first | (go_at_call 86; first | exact quiet_call (place_c _ _ _ _ _ _ (Re.of (Hid.out (by assumption)) zq0) (by omega)) | exact quiet_call2 (place_c _ _ _ _ _ _ (Re.of (Hid.out (by assumption)) zq0) (by omega))))))
    refine wpQuiet_nil ?_
    rintro _ ⟨tq, rfl⟩
    go_wp2_with (fail)
    with_reducible refine wp_region_ext (by kernel_rfl) (by kernel_rfl) ?_
    repeat (go_big_quiet_step (fail))
    refine wpQuiet_nil ?_
    rintro _ ⟨tq, rfl⟩
    go_wp2_with (fail)
    with_reducible refine wp_region_ext (by kernel_rfl) (by kernel_rfl) ?_
    repeat (go_big_quiet_step (fail))
    refine wpQuiet_nil ?_
    rintro _ ⟨tq, rfl⟩
    go_wp2_with (fail)
    with_reducible refine wp_region_ext (by kernel_rfl) (by kernel_rfl) ?_
    repeat (go_big_quiet_step ((first | (go_at_call 39; first | exact quiet_call (iPlcEdge_g _ _ _ _ _ (by assumption)) | exact quiet_call2 (iPlcEdge_g _ _ _ _ _ (by assumption))))))
    refine wpQuiet_nil ?_
    rintro _ ⟨tq, rfl⟩
    go_wp2_with (fail)
    go_ret
    have r1 := HX.out.wkSet HY.out 3 (.int .i64 o.seq) (y' := { y with seq := o.seq }) (by decide) rfl
    have r2 := r1.wkSet2 hk 4 (.int .i64 7) (y' := { y with seq := o.seq, last := 7 }) (by decide) rfl
    refine ⟨⟨some ⟨g, 0, none⟩, c1, a3, c3, a4, c4, a5, c5⟩, [g], B3, rfl, ?_, r2.of zq0, zq1, fun b hb => .inl hb⟩
    simp only [iLast, setC, List.length_set]; exact (by repeat (first | with_reducible exact HT.out | with_reducible apply blk_drew | with_reducible refine blk_set ?_ | (with_reducible refine blk_other ?_ (by first | assumption | omega)) | with_reducible refine blk_ext ?_ | with_reducible refine blk_alloc ?_))
  | true =>
    have R1 := hid r1
    by_cases u1 : y.coins < o.n
    · have E := hid (show iDo m c o = iLast c k { y with seq := o.seq } 3 by rw [EK.out]; simp only [iThrow, r1, u1, if_true, if_false, Bool.true_eq_false])
      clear r1
      rw [E.out]
      go_enter Try.func67, Try.ntmps67
      go_wp2_with (fail)
      with_reducible refine wp_region_ext (by kernel_rfl) (by kernel_rfl) ?_
      repeat (go_big_quiet_step ((first | (go_at_call 86; first | exact quiet_call (place_c _ _ _ _ _ _ (Re.of (Hid.out (by assumption)) zq0) (by omega)) | exact quiet_call2 (place_c _ _ _ _ _ _ (Re.of (Hid.out (by assumption)) zq0) (by omega))))))
      refine wpQuiet_nil ?_
      rintro _ ⟨tq, rfl⟩
      go_wp2_with (fail)
      with_reducible refine wp_region_ext (by kernel_rfl) (by kernel_rfl) ?_
      repeat (go_big_quiet_step (fail))
      refine wpQuiet_nil ?_
      rintro _ ⟨tq, rfl⟩
      go_wp2_with (fail)
      with_reducible refine wp_region_ext (by kernel_rfl) (by kernel_rfl) ?_
      repeat (go_big_quiet_step (fail))
      refine wpQuiet_nil ?_
      rintro _ ⟨tq, rfl⟩
      go_wp2_with (fail)
      with_reducible refine wp_region_ext (by kernel_rfl) (by kernel_rfl) ?_
      repeat (go_big_quiet_step ((first | (go_at_call 39; first | exact quiet_call (iPlcEdge_g _ _ _ _ _ (by assumption)) | exact quiet_call2 (iPlcEdge_g _ _ _ _ _ (by assumption))))))
      refine wpQuiet_nil ?_
      rintro _ ⟨tq, rfl⟩
      go_wp2_with (fail)
      with_reducible refine wp_region_ext (by kernel_rfl) (by kernel_rfl) ?_
      repeat (go_big_quiet_step (fail))
      refine wpQuiet_nil ?_
      rintro _ ⟨tq, rfl⟩
      go_wp2_with (fail)
      go_ret
      have r1 := HX.out.wkSet HY.out 3 (.int .i64 o.seq) (y' := { y with seq := o.seq }) (by decide) rfl
      have r2 := r1.wkSet2 hk 4 (.int .i64 3) (y' := { y with seq := o.seq, last := 3 }) (by decide) rfl
      refine ⟨⟨some ⟨g, 0, none⟩, c1, a3, c3, a4, c4, a5, c5⟩, [g], B3, rfl, ?_, r2.of zq0, zq1, fun b hb => .inl hb⟩
      simp only [iLast, setC, List.length_set]; exact (by repeat (first | with_reducible exact HT.out | with_reducible apply blk_drew | with_reducible refine blk_set ?_ | (with_reducible refine blk_other ?_ (by first | assumption | omega)) | with_reducible refine blk_ext ?_ | with_reducible refine blk_alloc ?_))
    · by_cases u2 : nx = 5000
      · have E := hid (show iDo m c o = iLast c k { y with seq := o.seq } 5 by rw [EK.out]; simp only [iThrow, r1, u1, HNA.out, u2, if_true, if_false, Bool.true_eq_false])
        clear r1
        rw [E.out]
        go_enter Try.func67, Try.ntmps67
        go_wp2_with (fail)
        with_reducible refine wp_region_ext (by kernel_rfl) (by kernel_rfl) ?_
        repeat (go_big_quiet_step ((first | (go_at_call 86; first | exact quiet_call (place_c _ _ _ _ _ _ (Re.of (Hid.out (by assumption)) zq0) (by omega)) | exact quiet_call2 (place_c _ _ _ _ _ _ (Re.of (Hid.out (by assumption)) zq0) (by omega))))))
        refine wpQuiet_nil ?_
        rintro _ ⟨tq, rfl⟩
        go_wp2_with (fail)
        with_reducible refine wp_region_ext (by kernel_rfl) (by kernel_rfl) ?_
        repeat (go_big_quiet_step (fail))
        refine wpQuiet_nil ?_
        rintro _ ⟨tq, rfl⟩
        go_wp2_with (fail)
        with_reducible refine wp_region_ext (by kernel_rfl) (by kernel_rfl) ?_
        repeat (go_big_quiet_step (fail))
        refine wpQuiet_nil ?_
        rintro _ ⟨tq, rfl⟩
        go_wp2_with (fail)
        with_reducible refine wp_region_ext (by kernel_rfl) (by kernel_rfl) ?_
        repeat (go_big_quiet_step ((first | (go_at_call 39; first | exact quiet_call (iPlcEdge_g _ _ _ _ _ (by assumption)) | exact quiet_call2 (iPlcEdge_g _ _ _ _ _ (by assumption))))))
        refine wpQuiet_nil ?_
        rintro _ ⟨tq, rfl⟩
        go_wp2_with (fail)
        with_reducible refine wp_region_ext (by kernel_rfl) (by kernel_rfl) ?_
        repeat (go_big_quiet_step (fail))
        refine wpQuiet_nil ?_
        rintro _ ⟨tq, rfl⟩
        go_wp2_with (fail)
        refine calls_gen fun Y hY => ?_
        have r1 := HX.out.wkSet HY.out 3 (.int .i64 o.seq) (y' := { y with seq := o.seq }) (by decide) rfl
        have hxY : CX Y (setC c k { y with seq := o.seq }) ⟨some ⟨g, 0, none⟩, c1, a3, c3, a4, c4, a5, c5⟩ [g] B3 B4 B5 := by rw [hY]; exact r1.of zq0
        have hTY : Y.heap[T]? = some (.cells #[.int .i64 c.cell, .slice (some ⟨g, 0, none⟩) (setC c k { y with seq := o.seq }).wk.length c1, .int .i64 c.ground, .slice a3 c.outs.length c3, .slice a4 c.next.length c4, .slice a5 c.ins.length c5] 37 (0, 0)) := by
          rw [show (setC c k { y with seq := o.seq }).wk.length = c.wk.length from List.length_set .., hY]; exact (by repeat (first | with_reducible exact HT.out | with_reducible apply blk_drew | with_reducible refine blk_set ?_ | (with_reducible refine blk_other ?_ (by first | assumption | omega)) | with_reducible refine blk_ext ?_ | with_reducible refine blk_alloc ?_))
        have hOY : Y.heap[w.heap.size + 1]? = some (.cells #[.int .i64 o.who, .int .i64 o.seq, .int .i64 o.kind, .int .i64 o.to_, .int .i64 o.n] 54 (0, 0)) := by
          rw [hY]; (repeat (first | with_reducible refine blk_ext ?_ | with_reducible apply blk_drew)); exact alloc_last (by simp)
        have hcY : Chg [g] w Y := by rw [hY]; exact zq1
        have HCY := hid hcY
        have hsY := hcY.size
        have HB3 := hid (show ∀ b ∈ B3 ++ B4, b < w.heap.size ∧ b ≠ g ∧ b ≠ T from fun b hb => by
          have hb' : b ∈ B3 ++ (B4 ++ B5) := by simp only [List.mem_append] at hb ⊢; rcases hb with hb | hb <;> simp [hb]
          refine ⟨HX.out.lt b (by simp only [List.mem_append] at hb' ⊢; exact .inr hb'), fun e => ?_, fun e => HTB.out (by rw [← e]; simp only [List.mem_append] at hb' ⊢; exact .inr hb')⟩
          have := List.nodup_append.1 HX.out.nd
          exact this.2.2 g (by simp) b hb' e.symm)
        have lOY := lt_blk hOY
        clear hY r1 hcY x0 x1 x2 x3 x4 z1 z2 z3 z4 cT0 cT1 cT2 zT1 zT2
        rw [HSO.out]
        refine (send_c (setC c k { y with seq := o.seq }) ⟨some ⟨g, 0, none⟩, c1, a3, c3, a4, c4, a5, c5⟩ T s ⟨0, 2, wlkZ, o.n⟩ nx xs [g] B3 B4 B5 Y hTY hxY (fun hb => (HB3.out T hb).2.2 rfl) HXS.out HNX.out nx0 nx1 (by omega)).mono ?_
        rintro e Y2 ⟨B3', rfl, hcx, hch, hb3⟩
        have hT2 := (hch.block T (lt_blk hTY) (fun hb => (HB3.out T hb).2.2 rfl)).trans hTY
        rw [show (setC c k { y with seq := o.seq }).wk.length = c.wk.length from List.length_set ..] at hT2
        have hO2 := (hch.block (w.heap.size + 1) lOY (fun hb => by have := (HB3.out _ hb).1; omega)).trans hOY
        have u3 : (nx == 5000) = true := by simpa using u2
        rw [u3, cond_true] at hcx
        rw [u3]
        obtain ⟨_, lg2, hk2, hyc2, hfr2⟩ := hcx.wkAt (set_at HY.out)
        have x4 := hyc2 4 _ rfl
        have z4 := hfr2 (k * 5 + 4)
        have HT2 := hid hT2
        have HCX := hid hcx
        have HCH := hid ((HCY.out.mono (B' := [g] ++ (B3 ++ B4)) (fun b hb => by simp at hb; simp [hb])).trans (hch.mono (fun b hb => by simp only [List.mem_append] at hb ⊢; exact .inr hb)))
        have HB3' := hid (show ∀ b ∈ [g] ++ B3', b ∈ [g] ++ B3 ∨ w.heap.size ≤ b from fun b hb => by
          rcases List.mem_append.1 hb with hb | hb
          · exact .inl (List.mem_append_left _ hb)
          · exact (hb3 b hb).imp (fun h9 => List.mem_append_right _ h9) (fun h9 => Nat.le_trans hsY h9))
        have cO0 := (cell_blk hO2 0).trans (show _ = some (Value.int .i64 o.who) from rfl)
        have cO3 := (cell_blk hO2 3).trans (show _ = some (Value.int .i64 o.to_) from rfl)
        have cO4 := (cell_blk hO2 4).trans (show _ = some (Value.int .i64 o.n) from rfl)
        have lO2 := lt_blk hO2
        have cT1 := (cell_blk hT2 1).trans (show _ = some (Value.slice (some ⟨g, 0, none⟩) c.wk.length c1) from rfl)
        have zT1 := frozen_blk hT2 1
        have lT2 := lt_blk hT2
        have nOg : g ≠ w.heap.size + 1 := by omega
        have nOT : T ≠ w.heap.size + 1 := by omega
        have nOg' : w.heap.size + 1 ≠ g := by omega
        have nOT' : w.heap.size + 1 ≠ T := by omega
        clear hT2 hcx hch hyc2 hfr2 hTY hxY hO2 hOY hb3
        go_wp2_with (fail)
        go_ret
        have r2 := CX.wkSet2 HCX.out hk 4 (.int .i64 5) (y' := { y with seq := o.seq, last := 5 }) (by decide) rfl
        refine ⟨⟨some ⟨g, 0, none⟩, c1, a3, c3, a4, c4, a5, c5⟩, [g], B3', rfl, ?_, r2.of zq0, (HCH.out.mono (fun b hb => List.mem_cons_of_mem _ hb)).trans zq1, HB3'.out⟩
        simp only [iLast, setC, List.length_set]; exact (by repeat (first | with_reducible exact HT2.out | with_reducible apply blk_drew | with_reducible refine blk_set ?_ | (with_reducible refine blk_other ?_ (by first | assumption | omega)) | with_reducible refine blk_ext ?_ | with_reducible refine blk_alloc ?_))
      · have E := hid (show iDo m c o = iLast (postC c o.to_ ⟨0, 2, wlkZ, o.n⟩) k { y with seq := o.seq, coins := y.coins - o.n } 1 by rw [EK.out]; simp only [iThrow, r1, u1, HNA.out, u2, if_true, if_false, Bool.true_eq_false])
        clear r1
        rw [E.out]
        go_enter Try.func67, Try.ntmps67
        go_wp2_with (fail)
        with_reducible refine wp_region_ext (by kernel_rfl) (by kernel_rfl) ?_
        repeat (go_big_quiet_step ((first | (go_at_call 86; first | exact quiet_call (place_c _ _ _ _ _ _ (Re.of (Hid.out (by assumption)) zq0) (by omega)) | exact quiet_call2 (place_c _ _ _ _ _ _ (Re.of (Hid.out (by assumption)) zq0) (by omega))))))
        refine wpQuiet_nil ?_
        rintro _ ⟨tq, rfl⟩
        go_wp2_with (fail)
        with_reducible refine wp_region_ext (by kernel_rfl) (by kernel_rfl) ?_
        repeat (go_big_quiet_step (fail))
        refine wpQuiet_nil ?_
        rintro _ ⟨tq, rfl⟩
        go_wp2_with (fail)
        with_reducible refine wp_region_ext (by kernel_rfl) (by kernel_rfl) ?_
        repeat (go_big_quiet_step (fail))
        refine wpQuiet_nil ?_
        rintro _ ⟨tq, rfl⟩
        go_wp2_with (fail)
        with_reducible refine wp_region_ext (by kernel_rfl) (by kernel_rfl) ?_
        repeat (go_big_quiet_step ((first | (go_at_call 39; first | exact quiet_call (iPlcEdge_g _ _ _ _ _ (by assumption)) | exact quiet_call2 (iPlcEdge_g _ _ _ _ _ (by assumption))))))
        refine wpQuiet_nil ?_
        rintro _ ⟨tq, rfl⟩
        go_wp2_with (fail)
        with_reducible refine wp_region_ext (by kernel_rfl) (by kernel_rfl) ?_
        repeat (go_big_quiet_step (fail))
        refine wpQuiet_nil ?_
        rintro _ ⟨tq, rfl⟩
        go_wp2_with (fail)
        refine calls_gen fun Y hY => ?_
        have r1 := HX.out.wkSet HY.out 3 (.int .i64 o.seq) (y' := { y with seq := o.seq }) (by decide) rfl
        have hxY : CX Y (setC c k { y with seq := o.seq }) ⟨some ⟨g, 0, none⟩, c1, a3, c3, a4, c4, a5, c5⟩ [g] B3 B4 B5 := by rw [hY]; exact r1.of zq0
        have hTY : Y.heap[T]? = some (.cells #[.int .i64 c.cell, .slice (some ⟨g, 0, none⟩) (setC c k { y with seq := o.seq }).wk.length c1, .int .i64 c.ground, .slice a3 c.outs.length c3, .slice a4 c.next.length c4, .slice a5 c.ins.length c5] 37 (0, 0)) := by
          rw [show (setC c k { y with seq := o.seq }).wk.length = c.wk.length from List.length_set .., hY]; exact (by repeat (first | with_reducible exact HT.out | with_reducible apply blk_drew | with_reducible refine blk_set ?_ | (with_reducible refine blk_other ?_ (by first | assumption | omega)) | with_reducible refine blk_ext ?_ | with_reducible refine blk_alloc ?_))
        have hOY : Y.heap[w.heap.size + 1]? = some (.cells #[.int .i64 o.who, .int .i64 o.seq, .int .i64 o.kind, .int .i64 o.to_, .int .i64 o.n] 54 (0, 0)) := by
          rw [hY]; (repeat (first | with_reducible refine blk_ext ?_ | with_reducible apply blk_drew)); exact alloc_last (by simp)
        have hcY : Chg [g] w Y := by rw [hY]; exact zq1
        have HCY := hid hcY
        have hsY := hcY.size
        have HB3 := hid (show ∀ b ∈ B3 ++ B4, b < w.heap.size ∧ b ≠ g ∧ b ≠ T from fun b hb => by
          have hb' : b ∈ B3 ++ (B4 ++ B5) := by simp only [List.mem_append] at hb ⊢; rcases hb with hb | hb <;> simp [hb]
          refine ⟨HX.out.lt b (by simp only [List.mem_append] at hb' ⊢; exact .inr hb'), fun e => ?_, fun e => HTB.out (by rw [← e]; simp only [List.mem_append] at hb' ⊢; exact .inr hb')⟩
          have := List.nodup_append.1 HX.out.nd
          exact this.2.2 g (by simp) b hb' e.symm)
        have lOY := lt_blk hOY
        clear hY r1 hcY x0 x1 x2 x3 x4 z1 z2 z3 z4 cT0 cT1 cT2 zT1 zT2
        rw [HSO.out]
        refine (send_c (setC c k { y with seq := o.seq }) ⟨some ⟨g, 0, none⟩, c1, a3, c3, a4, c4, a5, c5⟩ T s ⟨0, 2, wlkZ, o.n⟩ nx xs [g] B3 B4 B5 Y hTY hxY (fun hb => (HB3.out T hb).2.2 rfl) HXS.out HNX.out nx0 nx1 (by omega)).mono ?_
        rintro e Y2 ⟨B3', rfl, hcx, hch, hb3⟩
        have hT2 := (hch.block T (lt_blk hTY) (fun hb => (HB3.out T hb).2.2 rfl)).trans hTY
        rw [show (setC c k { y with seq := o.seq }).wk.length = c.wk.length from List.length_set ..] at hT2
        have hO2 := (hch.block (w.heap.size + 1) lOY (fun hb => by have := (HB3.out _ hb).1; omega)).trans hOY
        have u3 : (nx == 5000) = false := by simpa using u2
        rw [u3, cond_false, show postC (setC c k { y with seq := o.seq }) (s : Int) ⟨0, 2, wlkZ, o.n⟩ = setC (postC c s ⟨0, 2, wlkZ, o.n⟩) k { y with seq := o.seq } from rfl] at hcx
        rw [u3]
        obtain ⟨_, lg2, hk2, hyc2, hfr2⟩ := hcx.wkAt (show (setC (postC c s ⟨0, 2, wlkZ, o.n⟩) k { y with seq := o.seq }).wk[k]? = some _ from set_at HY.out)
        have x2 := hyc2 2 _ rfl
        have x4 := hyc2 4 _ rfl
        have z2 := hfr2 (k * 5 + 2)
        have z4 := hfr2 (k * 5 + 4)
        have HT2 := hid hT2
        have HCX := hid hcx
        have HCH := hid ((HCY.out.mono (B' := [g] ++ (B3 ++ B4)) (fun b hb => by simp at hb; simp [hb])).trans (hch.mono (fun b hb => by simp only [List.mem_append] at hb ⊢; exact .inr hb)))
        have HB3' := hid (show ∀ b ∈ [g] ++ B3', b ∈ [g] ++ B3 ∨ w.heap.size ≤ b from fun b hb => by
          rcases List.mem_append.1 hb with hb | hb
          · exact .inl (List.mem_append_left _ hb)
          · exact (hb3 b hb).imp (fun h9 => List.mem_append_right _ h9) (fun h9 => Nat.le_trans hsY h9))
        have cO0 := (cell_blk hO2 0).trans (show _ = some (Value.int .i64 o.who) from rfl)
        have cO3 := (cell_blk hO2 3).trans (show _ = some (Value.int .i64 o.to_) from rfl)
        have cO4 := (cell_blk hO2 4).trans (show _ = some (Value.int .i64 o.n) from rfl)
        have lO2 := lt_blk hO2
        have cT1 := (cell_blk hT2 1).trans (show _ = some (Value.slice (some ⟨g, 0, none⟩) c.wk.length c1) from rfl)
        have zT1 := frozen_blk hT2 1
        have lT2 := lt_blk hT2
        have nOg : g ≠ w.heap.size + 1 := by omega
        have nOT : T ≠ w.heap.size + 1 := by omega
        have nOg' : w.heap.size + 1 ≠ g := by omega
        have nOT' : w.heap.size + 1 ≠ T := by omega
        clear hT2 hcx hch hyc2 hfr2 hTY hxY hO2 hOY hb3
        go_wp2_with (fail)
        go_region
        go_wp2_with (fail)
        go_ret
        have r2 := CX.wkSet2 HCX.out hk 2 (.int .i64 (y.coins - o.n)) (y' := { y with seq := o.seq, coins := y.coins - o.n }) (by decide) rfl
        have r3 := CX.wkSet2 r2 hk 4 (.int .i64 1) (y' := { y with seq := o.seq, coins := y.coins - o.n, last := 1 }) (by decide) rfl
        refine ⟨⟨some ⟨g, 0, none⟩, c1, a3, c3, a4, c4, a5, c5⟩, [g], B3', rfl, ?_, by rw [HSO.out]; exact r3.of zq0, (HCH.out.mono (fun b hb => List.mem_cons_of_mem _ hb)).trans zq1, HB3'.out⟩
        simp only [iLast, setC, postC, List.length_set]; exact (by repeat (first | with_reducible exact HT2.out | with_reducible apply blk_drew | with_reducible refine blk_set ?_ | (with_reducible refine blk_other ?_ (by first | assumption | omega)) | with_reducible refine blk_ext ?_ | with_reducible refine blk_alloc ?_))
end Go.Proofs.Ytablgohncilmfaa

namespace Go.Proofs.Ytablgohncilmfaa
open Go.RowKit
set_option linter.unusedSimpArgs false
set_option linter.unusedVariables false

theorem asc_len {xs : List Wlk} (h : Asc xs) (hb : ∀ x ∈ xs, 1 ≤ x.id ∧ x.id ≤ 9) : xs.length ≤ 9 := by
  have key : ∀ (k : Nat) (x : Wlk), xs[k]? = some x → (k : Int) + 1 ≤ x.id := by
    intro k
    induction k with
    | zero => intro x hx; have := (hb x (List.mem_of_getElem? hx)).1; omega
    | succ k ih =>
      intro x hx
      have hk := (List.getElem?_eq_some_iff.1 hx).1
      have h0 := ih (xs[k]'(by omega)) (List.getElem?_eq_getElem (by omega))
      unfold Asc at h
      rw [List.pairwise_iff_getElem] at h
      have := h k (k + 1) (by omega) hk (by omega)
      rw [(List.getElem?_eq_some_iff.1 hx).2] at this
      omega
  rcases Nat.lt_or_ge 9 xs.length with h9 | h9
  · have h1 := key 9 xs[9] (List.getElem?_eq_getElem h9)
    have := (hb xs[9] (List.getElem_mem _)).2
    omega
  · exact h9
theorem CllF.wl {m : Mp} {c : Cll} (h : CllF m c) : c.wk.length ≤ 9 := asc_len h.asc fun x hx => (wlk_bd (h.wk x hx)).2.1
theorem CllF.bd {m : Mp} {c : Cll} (h : CllF m c) : BdC c := by
  refine ⟨by have := h.wl; omega, by have := h.lo; omega, fun xs hx => ?_, by have := h.ln; omega, by have := h.li; omega⟩
  obtain ⟨k, hk⟩ := List.getElem?_of_mem hx
  have hk2 : k < 2 := by have := (List.getElem?_eq_some_iff.1 hk).1; have := h.lo; omega
  obtain ⟨ys, nx, ix, hys, _, _, _, _, _, hl, _⟩ := h.side k hk2
  rw [hk] at hys
  obtain rfl := Option.some.inj hys
  omega
theorem CllF.setW {m : Mp} {c : Cll} {k : Nat} {y y' : Wlk} (h : CllF m c) (hy : c.wk[k]? = some y) (hid' : y.id = y'.id) (hw : wlkOk m y' = true) (hc : plcCell m y'.at_ = c.cell) : CllF m (setC c k y') := by
  refine ⟨h.mp, h.cell, asc_set h.asc hy hid', fun x hx => ?_, fun x hx => ?_, h.gr, h.lo, h.ln, h.li, h.side⟩
  · rcases List.mem_or_eq_of_mem_set hx with hx | rfl
    · exact h.wk x hx
    · exact hw
  · rcases List.mem_or_eq_of_mem_set hx with hx | rfl
    · exact h.home x hx
    · exact hc
theorem CllF.ground {m : Mp} {c : Cll} {g : Int} (h : CllF m c) (hg : 0 ≤ g ∧ g ≤ 900) : CllF m { c with ground := g } := ⟨h.mp, h.cell, h.asc, h.wk, h.home, hg, h.lo, h.ln, h.li, h.side⟩
theorem CllF.out {m : Mp} {c : Cll} {id : Int} (h : CllF m c) : CllF m { c with wk := wlkOut c.wk id } :=
  ⟨h.mp, h.cell, List.Pairwise.filter _ h.asc, fun x hx => h.wk x (List.mem_filter.1 hx).1, fun x hx => h.home x (List.mem_filter.1 hx).1, h.gr, h.lo, h.ln, h.li, h.side⟩
theorem pcl_app {m : Mp} {xs : List Pcl} {nx : Int} {p : Pcl} (h : pclListOk m xs nx = true) (hp : pclOk m p = true) (hn : p.n = nx) (h9 : nx < 5000) : pclListOk m (xs ++ [p]) (nx + 1) = true := by
  have hb := pcl_next h
  simp only [pclListOk, Bool.and_eq_true, decide_eq_true_eq] at h ⊢
  obtain ⟨⟨⟨h1, h2⟩, h3⟩, h4⟩ := h
  refine ⟨⟨⟨h1, inB_iff.2 ⟨by omega, by omega⟩⟩, by simp; omega⟩, allI_iff.2 fun k x hx => ?_⟩
  rw [List.getElem?_append] at hx
  split at hx
  · have := allI_iff.1 h4 k x hx
    simp only [pclAt, Bool.and_eq_true, beq_iff_eq] at this ⊢
    refine ⟨this.1, ?_⟩
    rw [this.2]; simp; omega
  · rename_i hk
    have hk0 : k - xs.length = 0 := by
      have := (List.getElem?_eq_some_iff.1 hx).1
      simp at this; omega
    rw [hk0] at hx
    obtain rfl : p = x := by simpa using hx
    simp only [pclAt, Bool.and_eq_true, beq_iff_eq]
    refine ⟨hp, ?_⟩
    rw [hn]; simp; omega
theorem CllF.post {m : Mp} {c : Cll} {s : Nat} {p : Pcl} (h : CllF m c) (hs : s < 2) (hside : plcSide m c.cell s ≠ -1) (hn : nextAt c s ≠ 5000) (hp : pclOk m (pclSet p (nextAt c s)) = true) (hk : p.kind = 1 → plcCell m p.wk.at_ = plcSide m c.cell s) : CllF m (postC c s p) := by
  obtain ⟨xs, nx, ix, hxs, hnx, hix, h1, h2, h3, h4, h5, h6⟩ := h.side s hs
  rw [nextAt_eq hnx] at hn hp
  rw [postC_eq hxs hnx]
  refine ⟨h.mp, h.cell, h.asc, h.wk, h.home, h.gr, by simp [h.lo], by simp [h.ln], h.li, fun j hj => ?_⟩
  by_cases e : s = j
  · subst e
    have hh := pcl_app h1 hp rfl (by omega)
    have hl := (pcl_next hh).2
    refine ⟨xs ++ [pclSet p nx], nx + 1, ix, ?_, ?_, hix, hh, by omega, h3, ?_, fun h' => absurd h' hside, fun _ q hq hqk => ?_⟩
    · exact List.getElem?_set_self (List.getElem?_eq_some_iff.1 hxs).1
    · exact List.getElem?_set_self (List.getElem?_eq_some_iff.1 hnx).1
    · have := (pcl_next hh).1; simp at hl ⊢; omega
    · rcases List.mem_append.1 hq with hq | hq
      · exact h6 hside q hq hqk
      · obtain rfl : q = pclSet p nx := by simpa using hq
        exact hk hqk
  · obtain ⟨ys, ny, iy, g1, g2, g3, g4⟩ := h.side j hj
    exact ⟨ys, ny, iy, by simp only; rw [List.getElem?_set_ne e]; exact g1, by simp only; rw [List.getElem?_set_ne e]; exact g2, g3, g4⟩
/-- One step from a place leads into its cell, or into the cell beside, or nowhere. -/
theorem step_to {m : Mp} {p : Int} {s : Nat} (ok : plcOk m = true) (hs : s < 2) (hp : plcCell m p ≠ -1) (ht : plcCell m (p + (2 * (s : Int) - 1)) ≠ -1) (hne : plcCell m (p + (2 * (s : Int) - 1)) ≠ plcCell m p) : plcSide m (plcCell m p) s = plcCell m (p + (2 * (s : Int) - 1)) ∧ plcSide m (plcCell m p) s ≠ -1 := by
  obtain ⟨_, p0, p1, pe, c0, c1⟩ := plcCell_ne hp
  obtain ⟨_, q0, q1, qe, d0, d1⟩ := plcCell_ne ht
  obtain ⟨l1, l2⟩ := plcCell_eq ok hp
  obtain ⟨r1, r2⟩ := plcCell_eq ok ht
  generalize hc : plcCell m p = a at *
  generalize hd : plcCell m (p + (2 * (s : Int) - 1)) = b at *
  obtain ⟨⟨m1, m2⟩, w1, w2⟩ := plcOk_iff.1 ok
  have hw : 0 < m.w := by omega
  have hab : b = a + (2 * (s : Int) - 1) := by
    have hs' : s = 0 ∨ s = 1 := by omega
    rcases hs' with rfl | rfl
    · have h1 : b * m.w ≤ a * m.w + m.w - 2 := by simp at r1 ⊢; omega
      have h2 : a * m.w < b * m.w + m.w + 1 := by simp at r2 ⊢; omega
      have e1 : b < a + 1 := by
        rcases (show b < (a + 1) ∨ (a + 1) ≤ b by omega) with h | h
        · exact h
        · have := Int.mul_le_mul_of_nonneg_right h (Int.le_of_lt hw)
          rw [Int.add_mul, Int.one_mul] at this; omega
      have e2 : a - 1 ≤ b := by
        rcases (show b < (a - 1) ∨ (a - 1) ≤ b by omega) with h | h
        · have h' : b + 1 ≤ a - 1 := by omega
          have := Int.mul_le_mul_of_nonneg_right h' (Int.le_of_lt hw)
          rw [Int.add_mul, Int.sub_mul, Int.one_mul] at this; omega
        · exact h
      simp; omega
    · have h1 : b * m.w ≤ a * m.w + m.w := by simp at r1 ⊢; omega
      have h2 : a * m.w + 1 < b * m.w + m.w := by simp at r2 ⊢; omega
      have e1 : b < a + 2 := by
        rcases (show b < (a + 2) ∨ (a + 2) ≤ b by omega) with h | h
        · exact h
        · have := Int.mul_le_mul_of_nonneg_right h (Int.le_of_lt hw)
          rw [Int.add_mul] at this; omega
      have e2 : a ≤ b := by
        rcases (show b < a ∨ a ≤ b by omega) with h | h
        · have h' : b + 1 ≤ a := by omega
          have := Int.mul_le_mul_of_nonneg_right h' (Int.le_of_lt hw)
          rw [Int.add_mul, Int.one_mul] at this; omega
        · exact h
      simp; omega
  have e : plcSide m a s = a + (2 * (s : Int) - 1) := plcSide_in ok (inB_iff.2 ⟨c0, c1⟩) (inB_iff.2 ⟨by omega, by omega⟩) (inB_iff.2 ⟨by omega, by omega⟩)
  exact ⟨by rw [e, hab], by rw [e]; omega⟩
theorem wlk_mk {m : Mp} {x : Wlk} (h0 : plcCell m x.at_ ≠ -1) (h1 : 1 ≤ x.id ∧ x.id ≤ 9) (h2 : 0 ≤ x.coins ∧ x.coins ≤ 99) (h3 : 0 ≤ x.seq ∧ x.seq ≤ 900) (h4 : 0 ≤ x.last ∧ x.last ≤ 9) : wlkOk m x = true := by
  simp only [wlkOk, ranged, Bool.and_eq_true, bne_iff_ne, ne_eq, inB_iff]
  exact ⟨h0, ⟨⟨h1, h2⟩, h3⟩, h4⟩
theorem CllF.last {m : Mp} {c : Cll} {k : Nat} {x y : Wlk} {code : Int} (h : CllF m c) (hx : c.wk[k]? = some x) (hid' : x.id = y.id) (hc : 0 ≤ y.coins ∧ y.coins ≤ 99) (hs : 0 ≤ y.seq ∧ y.seq ≤ 900) (hp : plcCell m y.at_ = c.cell) (hcode : 0 ≤ code ∧ code ≤ 9) : CllF m (iLast c k y code).1 := by
  have hxo := wlk_bd (h.wk x (List.mem_of_getElem? hx))
  refine h.setW hx hid' (wlk_mk (by simp only; have := h.cell.1; omega) (by simp only; omega) hc hs hcode) hp
theorem do_ok {m : Mp} {c : Cll} {o : Ord} (h : CllF m c) (ho : ordOk o = true) : CllF m (iDo m c o).1 ∧ 0 ≤ (iDo m c o).2 ∧ (iDo m c o).2 ≤ 9 := by
  obtain ⟨_, ⟨os0, os1⟩, ⟨hk1, hk6⟩, ok1, ok2, ok5, ⟨on0, on1⟩, onp⟩ := ord_bd ho
  unfold iDo
  rcases has_or c.wk o.who with hn | ⟨k, x, hx, hid'⟩
  · rw [if_pos (get_no hn).2.1]; exact ⟨h, show (0 : Int) ≤ 9 by decide, show (9 : Int) ≤ 9 by decide⟩
  · obtain ⟨g1, g2, g3⟩ := get_at h.asc hx
    rw [hid'] at g1 g2 g3
    obtain ⟨⟨xa0, xa1⟩, xi, xc, xs, xl⟩ := wlk_bd (h.wk x (List.mem_of_getElem? hx))
    have hhome := h.home x (List.mem_of_getElem? hx)
    simp only [g1, g2, g3, Bool.true_eq_false, if_false, Int.toNat_natCast]
    split
    · exact ⟨h, show (0 : Int) ≤ 8 by decide, show (8 : Int) ≤ 9 by decide⟩
    · split
      · exact ⟨h, xl.1, xl.2⟩
      · have L : ∀ code : Int, 0 ≤ code ∧ code ≤ 9 → CllF m (iLast c k { x with seq := o.seq } code).1 ∧ 0 ≤ (iLast c k { x with seq := o.seq } code).2 ∧ (iLast c k { x with seq := o.seq } code).2 ≤ 9 := fun code hcode =>
          ⟨h.last hx (show x.id = ({ x with seq := o.seq } : Wlk).id from rfl) xc (by simp only; omega) hhome hcode, hcode.1, hcode.2⟩
        unfold iKind
        split
        · rename_i hk
          obtain ⟨t0, t1⟩ := ok1 hk
          obtain ⟨s, hs⟩ : ∃ s : Nat, o.to_ = (s : Int) := ⟨o.to_.toNat, by omega⟩
          unfold iStep
          rw [hs]
          simp only
          split
          · exact L 2 (by decide)
          · rename_i n1
            split
            · rename_i n2
              exact ⟨h.last hx (y := { x with seq := o.seq, at_ := x.at_ + (2 * (s : Int) - 1) }) rfl xc (by simp only; omega) n2 (by decide), show (0 : Int) ≤ 1 by decide, show (1 : Int) ≤ 9 by decide⟩
            · rename_i n2
              split
              · exact L 2 (by decide)
              · rename_i n3
                obtain ⟨e1, e2⟩ := step_to (s := s) h.mp (by omega) (by rw [hhome]; have := h.cell.1; omega) n1 (by rw [hhome]; exact n2)
                rw [hhome] at e1 e2
                obtain ⟨ys, nx, ix, _, hnx, _, _, hb, _⟩ := h.side s (by omega)
                have hna := nextAt_eq hnx
                have hf := (h.post (s := s) (p := ⟨0, 1, { x with seq := o.seq, at_ := x.at_ + (2 * (s : Int) - 1), last := 1 }, 0⟩) (by omega) e2 n3 (by
                  rw [hna] at n3 ⊢
                  simp only [pclSet, pclOk, formed, h.mp, Bool.true_and, Bool.and_eq_true, Bool.or_eq_true, inB_iff, beq_iff_eq]
                  refine ⟨⟨by omega, .inl ⟨by trivial, by trivial⟩⟩, .inr (wlk_mk (by simp only; exact n1) (by simp only; exact xi) (by simp only; exact xc) (by simp only; omega) (by simp only; omega))⟩) (fun _ => e1.symm)).out (id := x.id)
                exact ⟨hf, show (0 : Int) ≤ 1 by decide, show (1 : Int) ≤ 9 by decide⟩
        · split
          · rename_i _ hk
            have hne := ok2 hk
            have hn1 := onp (by omega) (by omega)
            unfold iGive
            rcases has_or c.wk o.to_ with hno | ⟨j, z, hj, hjid⟩
            · rw [if_pos (get_no hno).2.1]; exact L 4 (by decide)
            · have hjk : k ≠ j := fun e => by
                subst e
                rw [hx] at hj
                obtain rfl := Option.some.inj hj
                omega
              obtain ⟨f1, f2, f3⟩ := get_at h.asc hj
              rw [hjid] at f1 f2 f3
              obtain ⟨_, zi, zc, zs, zl⟩ := wlk_bd (h.wk z (List.mem_of_getElem? hj))
              have zh := h.home z (List.mem_of_getElem? hj)
              simp only [f1, f2, f3, Bool.true_eq_false, if_false, Int.toNat_natCast]
              split
              · exact L 3 (by decide)
              · split
                · exact L 5 (by decide)
                · have hz := h.setW (y' := { z with coins := z.coins + o.n }) hj rfl (wlk_mk (by simp only; have := h.cell.1; omega) zi (by simp only; omega) zs zl) zh
                  refine ⟨hz.last (x := x) (by simp only [setC]; rw [List.getElem?_set_ne (Ne.symm hjk)]; exact hx) rfl (by simp only; omega) (by simp only; omega) hhome (by decide), show (0 : Int) ≤ 1 by decide, show (1 : Int) ≤ 9 by decide⟩
          · split
            · have hn1 := onp (by omega) (by omega)
              unfold iDrop
              have hg := h.gr
              simp only
              split
              · exact L 3 (by decide)
              · split
                · exact L 5 (by decide)
                · exact ⟨(h.ground (g := c.ground + o.n) (by omega)).last (x := x) hx rfl (by simp only; omega) (by simp only; omega) hhome (by decide), show (0 : Int) ≤ 1 by decide, show (1 : Int) ≤ 9 by decide⟩
            · split
              · have hn1 := onp (by omega) (by omega)
                unfold iPick
                have hg := h.gr
                simp only
                split
                · exact L 6 (by decide)
                · split
                  · exact L 5 (by decide)
                  · exact ⟨(h.ground (g := c.ground - o.n) (by omega)).last (x := x) hx rfl (by simp only; omega) (by simp only; omega) hhome (by decide), show (0 : Int) ≤ 1 by decide, show (1 : Int) ≤ 9 by decide⟩
              · split
                · rename_i hk
                  have hn1 := onp (by omega) (by omega)
                  obtain ⟨t0, t1⟩ := ok5 hk
                  obtain ⟨s, hs⟩ : ∃ s : Nat, o.to_ = (s : Int) := ⟨o.to_.toNat, by omega⟩
                  unfold iThrow
                  rw [hs]
                  simp only
                  split
                  · exact L 7 (by decide)
                  · rename_i n1
                    split
                    · exact L 3 (by decide)
                    · split
                      · exact L 5 (by decide)
                      · rename_i n3
                        have e2 : plcSide m c.cell s ≠ -1 := by
                          simp only [plcEdge, hhome] at n1
                          intro e
                          rw [e] at n1
                          simp at n1
                        obtain ⟨ys, nx, ix, _, hnx, _, _, hb, _⟩ := h.side s (by omega)
                        have hna := nextAt_eq hnx
                        have hf := h.post (s := s) (p := ⟨0, 2, wlkZ, o.n⟩) (by omega) e2 n3 (by
                          rw [hna] at n3 ⊢
                          simp only [pclSet, pclOk, formed, h.mp, Bool.true_and, Bool.and_eq_true, Bool.or_eq_true, inB_iff, beq_iff_eq]
                          exact ⟨⟨by omega, .inr ⟨⟨by trivial, by decide⟩, by omega⟩⟩, .inl (by trivial)⟩) (fun h => by simp at h)
                        exact ⟨hf.last (x := x) hx rfl (by simp only; omega) (by simp only; omega) hhome (by decide), show (0 : Int) ≤ 1 by decide, show (1 : Int) ≤ 9 by decide⟩
                · exact L 1 (by decide)
end Go.Proofs.Ytablgohncilmfaa

namespace Go.Proofs.Ytablgohncilmfaa
open Go.RowKit
set_option linter.unusedSimpArgs false
set_option linter.unusedVariables false

theorem do_c (m : Mp) (c : Cll) (h : CllH) (T : Nat) (o : Ord) (B1 B3 B4 B5 : List Nat) (w : World)
    (hT : w.heap[T]? = some (.cells #[.int .i64 c.cell, .slice h.a1 c.wk.length h.c1, .int .i64 c.ground, .slice h.a3 c.outs.length h.c3, .slice h.a4 c.next.length h.c4, .slice h.a5 c.ins.length h.c5] 37 (0, 0))) (hx : CX w c h B1 B3 B4 B5) (hTB : T ∉ B1 ++ (B3 ++ (B4 ++ B5))) (hok : cllOk m c = true) (ho : ordOk o = true) :
    Calls Try.prog 67 #[.pointer (some ⟨T, 0, none⟩), .agg #[.int .i64 m.c, .int .i64 m.w], .agg #[.int .i64 o.who, .int .i64 o.seq, .int .i64 o.kind, .int .i64 o.to_, .int .i64 o.n]] w (DoR w T B1 B3 B4 B5 (iDo m c o).1 (iDo m c o).2) := by
  have F := cllF_iff.1 hok
  have hl : c.wk.length ≤ 1048576 := by have := F.wl; omega
  rcases has_or c.wk o.who with hn | ⟨k, y, hy, hid'⟩
  · exact do_away m c h T o B1 B3 B4 B5 w hT hx hl hn
  · by_cases hs : o.seq ≤ y.seq
    · exact do_old m c h T o B1 B3 B4 B5 w k y hT hx hTB F ho hl hy hid' hs
    · have hs' : y.seq < o.seq := by omega
      have hk := (ord_bd ho).2.2.1
      have hkk : o.kind = 1 ∨ o.kind = 2 ∨ o.kind = 3 ∨ o.kind = 4 ∨ o.kind = 5 ∨ o.kind = 6 := by omega
      rcases hkk with hkk | hkk | hkk | hkk | hkk | hkk
      · exact do_step m c h T o B1 B3 B4 B5 w k y hT hx hTB F ho hl hy hid' hs' hkk
      · exact do_give m c h T o B1 B3 B4 B5 w k y hT hx hTB F ho hl hy hid' hs' hkk
      · exact do_drop m c h T o B1 B3 B4 B5 w k y hT hx hTB F ho hl hy hid' hs' hkk
      · exact do_pick m c h T o B1 B3 B4 B5 w k y hT hx hTB F ho hl hy hid' hs' hkk
      · exact do_throw m c h T o B1 B3 B4 B5 w k y hT hx hTB F ho hl hy hid' hs' hkk
      · exact do_rest m c h T o B1 B3 B4 B5 w k y hT hx hTB F ho hl hy hid' hs' hkk
def cdoB (m : Mp) (c : Cll) (o : Ord) : Bool := cllOk m c && ordOk o
def cdoV (m : Mp) (c : Cll) (o : Ord) : Cll := bif cdoB m c o then (iDo m c o).1 else cllZ
def cdoN (m : Mp) (c : Cll) (o : Ord) : Int := bif cdoB m c o then (iDo m c o).2 else 0
set_option maxRecDepth 100000 in
set_option maxHeartbeats 8000000 in
theorem iCllDo_c (m : Mp) (c : Cll) (h : CllH) (o : Ord) (w : World) (hx : ReC w c h) (hb : BdC c) :
    Calls Try.prog 24 #[.agg #[.int .i64 m.c, .int .i64 m.w], .agg #[.int .i64 c.cell, .slice h.a1 c.wk.length h.c1, .int .i64 c.ground, .slice h.a3 c.outs.length h.c3, .slice h.a4 c.next.length h.c4, .slice h.a5 c.ins.length h.c5], .agg #[.int .i64 o.who, .int .i64 o.seq, .int .i64 o.kind, .int .i64 o.to_, .int .i64 o.n]] w (MadeCV w (cdoV m c o) (.int .i64 (cdoN m c o))) := by
  have HX := hid hx
  have HB := hid hb
  clear hx hb
  cases q1 : cllOk m c with
  | false =>
    have hbad : cdoB m c o = false := by simp [cdoB, q1]
    have E1 := hid (show cdoV m c o = cllZ by simp [cdoV, hbad])
    have E2 := hid (show cdoN m c o = 0 by simp [cdoN, hbad])
    clear hbad
    go_enter Try.func24, Try.ntmps24
    try go_wp2_with (first
        | (go_at_call 31; refine (iCllOk_c _ _ _ _ (ReC.of (Hid.out (by assumption)) zq0) (Hid.out (by assumption))).mono ?_; rintro e w' ⟨rfl, t, rfl⟩) | (go_at_call 66; refine (iOrdOk_c _ _).mono ?_; rintro e w' ⟨rfl, t, rfl⟩)
        | (
          with_reducible refine wp_region_mix (by kernel_rfl) (by decide +kernel) ?_
          repeat (first
            | (refine mix_pure rfl ?_; (first | go_big_quiet_skip | (go_big_quiet_want; go_big_quiet_op; go_big_quiet_on)); refine wpQuiet_nil ?_)
            | (refine mix_skip (by rfl) ?_; (try simp only [Act.put, List.setIfInBounds_toArray, List.set_cons_zero, List.set_cons_succ]))
            | (refine mix_mk rfl (by rfl) (fun K hK => ?_); (first | (go_simp; first | (go_at_call 31; refine (iCllOk_c _ _ _ _ (ReC.of (Hid.out (by assumption)) zq0) (Hid.out (by assumption))).mono ?_; rintro e w' ⟨rfl, t, rfl⟩) | (go_at_call 66; refine (iOrdOk_c _ _).mono ?_; rintro e w' ⟨rfl, t, rfl⟩) | skip)); (show K _ _); refine hK _ _ (show Ext _ _ from zq0) ?_; clear hK K; (try simp only [Act.put, List.setIfInBounds_toArray, List.set_cons_zero, List.set_cons_succ])))
          refine mix_nil ?_)
        | (
          with_reducible refine wp_region_ext (by kernel_rfl) (by kernel_rfl) ?_
          repeat (first | go_big_quiet_skip | (go_big_quiet_want; go_big_quiet_op; first | go_big_quiet_on | (apply Exists.intro; refine ⟨fun _ => ?_, ?_⟩; ((first | (go_at_call 31; first | exact quiet_call (iCllOk_c _ _ _ _ (ReC.of (Hid.out (by assumption)) zq0) (Hid.out (by assumption))) | exact quiet_call2 (iCllOk_c _ _ _ _ (ReC.of (Hid.out (by assumption)) zq0) (Hid.out (by assumption)))) | (go_at_call 66; first | exact quiet_call (iOrdOk_c _ _) | exact quiet_call2 (iOrdOk_c _ _)))); (try rw [h1]); (try rw [h2]); (try rw [h3]); (try rw [h4]); (try rw [p1]); (try rw [p2]); (try rw [p3]); (try rw [p4]); (try rw [r1]); (try rw [r2]); (try rw [r3]); (try rw [r4]); (try rw [r5]); (try rw [r6]); (try rw [q3]); (try rw [q4]); (try rw [hp]); (try rw [hq]); go_big_quiet_on)))
          refine wpQuiet_nil ?_
          rintro _ ⟨tq, rfl⟩))
    refine bodyPost_ret (v := .tuple #[.agg #[.int .i64 0, .slice none 0 0, .int .i64 0, .slice none 0 0, .slice none 0 0, .slice none 0 0], .int .i64 0]) (by simp [results, Try.results24, go_sem]) rfl ?_
    rw [E1.out, E2.out]
    exact ⟨⟨none, 0, none, 0, none, 0, none, 0⟩, rfl, zq0, Nat.le_refl _, [], by simp, by simp, ownL_nil_cll _⟩
  | true =>
    cases q2 : ordOk o with
    | false =>
      have hbad : cdoB m c o = false := by simp [cdoB, q2]
      have E1 := hid (show cdoV m c o = cllZ by simp [cdoV, hbad])
      have E2 := hid (show cdoN m c o = 0 by simp [cdoN, hbad])
      clear hbad
      go_enter Try.func24, Try.ntmps24
      try go_wp2_with (first
          | (go_at_call 31; refine (iCllOk_c _ _ _ _ (ReC.of (Hid.out (by assumption)) zq0) (Hid.out (by assumption))).mono ?_; rintro e w' ⟨rfl, t, rfl⟩) | (go_at_call 66; refine (iOrdOk_c _ _).mono ?_; rintro e w' ⟨rfl, t, rfl⟩)
          | (
            with_reducible refine wp_region_mix (by kernel_rfl) (by decide +kernel) ?_
            repeat (first
              | (refine mix_pure rfl ?_; (first | go_big_quiet_skip | (go_big_quiet_want; go_big_quiet_op; go_big_quiet_on)); refine wpQuiet_nil ?_)
              | (refine mix_skip (by rfl) ?_; (try simp only [Act.put, List.setIfInBounds_toArray, List.set_cons_zero, List.set_cons_succ]))
              | (refine mix_mk rfl (by rfl) (fun K hK => ?_); (first | (go_simp; first | (go_at_call 31; refine (iCllOk_c _ _ _ _ (ReC.of (Hid.out (by assumption)) zq0) (Hid.out (by assumption))).mono ?_; rintro e w' ⟨rfl, t, rfl⟩) | (go_at_call 66; refine (iOrdOk_c _ _).mono ?_; rintro e w' ⟨rfl, t, rfl⟩) | skip)); (show K _ _); refine hK _ _ (show Ext _ _ from zq0) ?_; clear hK K; (try simp only [Act.put, List.setIfInBounds_toArray, List.set_cons_zero, List.set_cons_succ])))
            refine mix_nil ?_)
          | (
            with_reducible refine wp_region_ext (by kernel_rfl) (by kernel_rfl) ?_
            repeat (first | go_big_quiet_skip | (go_big_quiet_want; go_big_quiet_op; first | go_big_quiet_on | (apply Exists.intro; refine ⟨fun _ => ?_, ?_⟩; ((first | (go_at_call 31; first | exact quiet_call (iCllOk_c _ _ _ _ (ReC.of (Hid.out (by assumption)) zq0) (Hid.out (by assumption))) | exact quiet_call2 (iCllOk_c _ _ _ _ (ReC.of (Hid.out (by assumption)) zq0) (Hid.out (by assumption)))) | (go_at_call 66; first | exact quiet_call (iOrdOk_c _ _) | exact quiet_call2 (iOrdOk_c _ _)))); (try rw [h1]); (try rw [h2]); (try rw [h3]); (try rw [h4]); (try rw [p1]); (try rw [p2]); (try rw [p3]); (try rw [p4]); (try rw [r1]); (try rw [r2]); (try rw [r3]); (try rw [r4]); (try rw [r5]); (try rw [r6]); (try rw [q3]); (try rw [q4]); (try rw [hp]); (try rw [hq]); go_big_quiet_on)))
            refine wpQuiet_nil ?_
            rintro _ ⟨tq, rfl⟩))
      refine bodyPost_ret (v := .tuple #[.agg #[.int .i64 0, .slice none 0 0, .int .i64 0, .slice none 0 0, .slice none 0 0, .slice none 0 0], .int .i64 0]) (by simp [results, Try.results24, go_sem]) rfl ?_
      rw [E1.out, E2.out]
      exact ⟨⟨none, 0, none, 0, none, 0, none, 0⟩, rfl, zq0, Nat.le_refl _, [], by simp, by simp, ownL_nil_cll _⟩
    | true =>
      have hok : cdoB m c o = true := by simp [cdoB, q1, q2]
      have HE := hid (show cdoV m c o = (iDo m c o).1 ∧ cdoN m c o = (iDo m c o).2 by simp [cdoV, cdoN, hok])
      have HOK := hid q1
      have HOO := hid q2
      have HF2 := hid (do_ok (cllF_iff.1 q1) q2)
      clear hok
      go_enter Try.func24, Try.ntmps24
      try go_wp2_with (first
          | (go_at_call 31; (with_reducible refine (iCllOk_c _ _ _ _ (ReC.of HX.out zq0) HB.out).mono ?_); rintro e w' ⟨rfl, ta, rfl⟩) | (go_at_call 66; (with_reducible refine (iOrdOk_c _ _).mono ?_); rintro e w' ⟨rfl, tb, rfl⟩) | (go_at_call 54; (with_reducible refine (iCllCopy_x c _ _ (ReC.of HX.out zq0) HB.out).mono ?_); rintro e w' ⟨⟨p1, r1, p3, r3, p4, r4, p5, r5⟩, B1, B3, B4, B5, rfl, ⟨t, rfl⟩, hcx, hlo⟩; have HCX := hid hcx; have HLO := hid hlo; clear hcx hlo)
          | (
            with_reducible refine wp_region_mix (by kernel_rfl) (by decide +kernel) ?_
            repeat (first
              | (refine mix_pure rfl ?_; (first | go_big_quiet_skip | (go_big_quiet_want; go_big_quiet_op; go_big_quiet_on)); refine wpQuiet_nil ?_)
              | (refine mix_skip (by rfl) ?_; (try simp only [Act.put, List.setIfInBounds_toArray, List.set_cons_zero, List.set_cons_succ]))
              | (refine mix_mk rfl (by rfl) (fun K hK => ?_); (first | (go_simp; first | (go_at_call 31; (with_reducible refine (iCllOk_c _ _ _ _ (ReC.of HX.out zq0) HB.out).mono ?_); rintro e w' ⟨rfl, ta, rfl⟩) | (go_at_call 66; (with_reducible refine (iOrdOk_c _ _).mono ?_); rintro e w' ⟨rfl, tb, rfl⟩) | (go_at_call 54; (with_reducible refine (iCllCopy_x c _ _ (ReC.of HX.out zq0) HB.out).mono ?_); rintro e w' ⟨⟨p1, r1, p3, r3, p4, r4, p5, r5⟩, B1, B3, B4, B5, rfl, ⟨t, rfl⟩, hcx, hlo⟩; have HCX := hid hcx; have HLO := hid hlo; clear hcx hlo) | skip)); (show K _ _); refine hK _ _ (show Ext _ _ from zq0) ?_; clear hK K; (try simp only [Act.put, List.setIfInBounds_toArray, List.set_cons_zero, List.set_cons_succ])))
            refine mix_nil ?_)
          | (
            with_reducible refine wp_region_ext (by kernel_rfl) (by kernel_rfl) ?_
            repeat (first | go_big_quiet_skip | (go_big_quiet_want; go_big_quiet_op; first | go_big_quiet_on | (apply Exists.intro; refine ⟨fun _ => ?_, ?_⟩; (fail); (try rw [h1]); (try rw [h2]); (try rw [h3]); (try rw [h4]); (try rw [p1]); (try rw [p2]); (try rw [p3]); (try rw [p4]); (try rw [r1]); (try rw [r2]); (try rw [r3]); (try rw [r4]); (try rw [r5]); (try rw [r6]); (try rw [q3]); (try rw [q4]); (try rw [hp]); (try rw [hq]); go_big_quiet_on)))
            refine wpQuiet_nil ?_
            rintro _ ⟨tq, rfl⟩))
      refine calls_gen fun Y hY => ?_
      generalize hTe : w.heap.size + 1 + 1 + 1 + 1 + ((ta.add tb).add t).bs.size = T
      have EY : Ext w Y := by rw [hY]; ((try simp only [ext_drew]); (try simp only [ext_ext]); repeat (first | exact Ext.refl _ | with_reducible apply Ext.add | with_reducible apply Ext.dr | apply Ext.alloc | apply Ext.ext | apply Ext.drew | refine Ext.trans ?_ (by assumption)))
      have hT : Y.heap[T]? = some (.cells #[.int .i64 c.cell, .slice p1 c.wk.length r1, .int .i64 c.ground, .slice p3 c.outs.length r3, .slice p4 c.next.length r4, .slice p5 c.ins.length r5] 37 (0, 0)) := by rw [hY]; exact alloc_last (by rw [← hTe]; ((try simp [go_sem]) <;> (try simp [Xt.add]) <;> omega))
      have hR : Y.heap[w.heap.size + 1 + 1 + 1]? = some (.cells #[.int .i64 0, .slice none 0 0, .int .i64 0, .slice none 0 0, .slice none 0 0, .slice none 0 0] 37 (0, 0)) := by rw [hY]; exact blk_alloc (blk_ext (alloc_last (by simp)))
      have HCY := hid (show CX Y c ⟨p1, r1, p3, r3, p4, r4, p5, r5⟩ B1 B3 B4 B5 by rw [hY]; exact HCX.out.of zq0)
      have HTB := hid (show ∀ b ∈ B1 ++ (B3 ++ (B4 ++ B5)), b < T from fun b hb => Nat.lt_of_lt_of_le (HCX.out.lt b hb) (by rw [← hTe]; ((try simp [go_sem]) <;> (try simp [Xt.add]) <;> omega)))
      have HLY := hid (show ∀ b ∈ B1 ++ (B3 ++ (B4 ++ B5)), w.heap.size + 4 ≤ b from fun b hb => Nat.le_trans zq2 (HLO.out b hb))
      have hTw : w.heap.size + 1 + 1 + 1 < T := by omega
      clear hY hTe HCX HLO
      have hTB3 : T ∉ B1 ++ (B3 ++ (B4 ++ B5)) := fun hm => by have := HTB.out T hm; omega
      refine (do_c m c ⟨p1, r1, p3, r3, p4, r4, p5, r5⟩ T o B1 B3 B4 B5 Y hT HCY.out hTB3 HOK.out HOO.out).mono ?_
      obtain ⟨v, hv⟩ : ∃ v, (iDo m c o).1 = v := ⟨_, rfl⟩
      obtain ⟨q, hq⟩ : ∃ q, (iDo m c o).2 = q := ⟨_, rfl⟩
      rw [hv, hq]
      have HV := hid hv
      have HQ := hid hq
      have HBV := hid (show BdC v by rw [← hv]; exact HF2.out.1.bd)
      rintro e Y2 ⟨⟨u1, s1, u3, s3, u4, s4, u5, s5⟩, D1, D3, rfl, hT2, hcx, hch, hb3⟩
      have hRn : w.heap.size + 1 + 1 + 1 ∉ T :: (B1 ++ (B3 ++ B4)) := fun hm => by
        rcases List.mem_cons.1 hm with e | hm
        · omega
        · have := HLY.out _ (show w.heap.size + 1 + 1 + 1 ∈ B1 ++ (B3 ++ (B4 ++ B5)) by simp only [List.mem_append] at hm ⊢; rcases hm with h | h | h <;> simp [h]); omega
      have hR2 := (hch.block _ (lt_blk hR) hRn).trans hR
      have EY2 : Ext w Y2 := Ext.of_below (Below.chg (w0 := w) EY.below hch (fun b hb => by
        rcases List.mem_cons.1 hb with e | hb
        · omega
        · have := HLY.out b (by simp only [List.mem_append] at hb ⊢; rcases hb with h | h | h <;> simp [h]); omega))
      have HCV := hid hcx
      have cT0 : Y2.cell? ⟨T, 0, none⟩ = some (.int .i64 v.cell) := (cell_blk hT2 0).trans rfl
      have cR0 : Y2.cell? ⟨w.heap.size + 1 + 1 + 1, 0, none⟩ = some (.int .i64 0) := (cell_blk hR2 0).trans rfl
      have zR0 := frozen_blk hR2 0
      have cT1 : Y2.cell? ⟨T, 1, none⟩ = some (.slice u1 v.wk.length s1) := (cell_blk hT2 1).trans rfl
      have cR1 : Y2.cell? ⟨w.heap.size + 1 + 1 + 1, 1, none⟩ = some (.slice none 0 0) := (cell_blk hR2 1).trans rfl
      have zR1 := frozen_blk hR2 1
      have cT2 : Y2.cell? ⟨T, 2, none⟩ = some (.int .i64 v.ground) := (cell_blk hT2 2).trans rfl
      have cR2 : Y2.cell? ⟨w.heap.size + 1 + 1 + 1, 2, none⟩ = some (.int .i64 0) := (cell_blk hR2 2).trans rfl
      have zR2 := frozen_blk hR2 2
      have cT3 : Y2.cell? ⟨T, 3, none⟩ = some (.slice u3 v.outs.length s3) := (cell_blk hT2 3).trans rfl
      have cR3 : Y2.cell? ⟨w.heap.size + 1 + 1 + 1, 3, none⟩ = some (.slice none 0 0) := (cell_blk hR2 3).trans rfl
      have zR3 := frozen_blk hR2 3
      have cT4 : Y2.cell? ⟨T, 4, none⟩ = some (.slice u4 v.next.length s4) := (cell_blk hT2 4).trans rfl
      have cR4 : Y2.cell? ⟨w.heap.size + 1 + 1 + 1, 4, none⟩ = some (.slice none 0 0) := (cell_blk hR2 4).trans rfl
      have zR4 := frozen_blk hR2 4
      have cT5 : Y2.cell? ⟨T, 5, none⟩ = some (.slice u5 v.ins.length s5) := (cell_blk hT2 5).trans rfl
      have cR5 : Y2.cell? ⟨w.heap.size + 1 + 1 + 1, 5, none⟩ = some (.slice none 0 0) := (cell_blk hR2 5).trans rfl
      have zR5 := frozen_blk hR2 5
      have lT2 := lt_blk hT2
      have lR2 := lt_blk hR2
      clear hT2 hR2 hT hR hcx hch hb3 HCY hv hq EY hRn hTB3
      try go_wp2_with (first
          | (go_at_call 54; (with_reducible refine (iCllCopy_x v ⟨u1, s1, u3, s3, u4, s4, u5, s5⟩ _ (ReC.of HCV.out.re zq0) HBV.out).mono ?_); rintro e w' ⟨⟨n1, m1, n3, m3, n4, m4, n5, m5⟩, E1, E3, E4, E5, rfl, ⟨t9, rfl⟩, hd, hl⟩; have HD := hid hd; have HL := hid hl; clear hd hl)
          | (
            with_reducible refine wp_region_mix (by kernel_rfl) (by decide +kernel) ?_
            repeat (first
              | (refine mix_pure rfl ?_; (first | go_big_quiet_skip | (go_big_quiet_want; go_big_quiet_op; go_big_quiet_on)); refine wpQuiet_nil ?_)
              | (refine mix_skip (by rfl) ?_; (try simp only [Act.put, List.setIfInBounds_toArray, List.set_cons_zero, List.set_cons_succ]))
              | (refine mix_mk rfl (by rfl) (fun K hK => ?_); (first | (go_simp; first | (go_at_call 54; (with_reducible refine (iCllCopy_x v ⟨u1, s1, u3, s3, u4, s4, u5, s5⟩ _ (ReC.of HCV.out.re zq0) HBV.out).mono ?_); rintro e w' ⟨⟨n1, m1, n3, m3, n4, m4, n5, m5⟩, E1, E3, E4, E5, rfl, ⟨t9, rfl⟩, hd, hl⟩; have HD := hid hd; have HL := hid hl; clear hd hl) | skip)); (show K _ _); refine hK _ _ (show Ext _ _ from zq0) ?_; clear hK K; (try simp only [Act.put, List.setIfInBounds_toArray, List.set_cons_zero, List.set_cons_succ])))
            refine mix_nil ?_)
          | (
            with_reducible refine wp_region_ext (by kernel_rfl) (by kernel_rfl) ?_
            repeat (first | go_big_quiet_skip | (go_big_quiet_want; go_big_quiet_op; first | go_big_quiet_on | (apply Exists.intro; refine ⟨fun _ => ?_, ?_⟩; (fail); (try rw [h1]); (try rw [h2]); (try rw [h3]); (try rw [h4]); (try rw [p1]); (try rw [p2]); (try rw [p3]); (try rw [p4]); (try rw [r1]); (try rw [r2]); (try rw [r3]); (try rw [r4]); (try rw [r5]); (try rw [r6]); (try rw [q3]); (try rw [q4]); (try rw [hp]); (try rw [hq]); go_big_quiet_on)))
            refine wpQuiet_nil ?_
            rintro _ ⟨tq, rfl⟩))
      refine bodyPost_ret (v := .tuple #[.agg #[.int .i64 v.cell, .slice n1 v.wk.length m1, .int .i64 v.ground, .slice n3 v.outs.length m3, .slice n4 v.next.length m4, .slice n5 v.ins.length m5], .int .i64 q]) (by simp [results, Try.results24, go_sem, cR0, cR1, cR2, cR3, cR4, cR5, lR2]) rfl ?_
      rw [HE.out.1, HE.out.2, HV.out, HQ.out]
      have hdl : ∀ b ∈ E1 ++ (E3 ++ (E4 ++ E5)), w.heap.size + 1 + 1 + 1 < b := fun b hb => Nat.lt_of_lt_of_le lR2 (HL.out b hb)
      exact ⟨⟨n1, m1, n3, m3, n4, m4, n5, m5⟩, rfl, Ext.of_below (Below.chg (w0 := w) EY2.below (B := [w.heap.size + 1 + 1 + 1]) zq1 (by simp; omega)), (HD.out.fin HL.out zq0 (by simp)).own (fun b hb => by have := hdl b hb; omega)⟩
end Go.Proofs.Ytablgohncilmfaa

namespace Go.Proofs.Ytablgohncilmfaa
open Go.RowKit
set_option linter.unusedSimpArgs false
set_option linter.unusedVariables false

set_option maxRecDepth 100000 in
set_option maxHeartbeats 8000000 in
theorem l5Post_c (c : Cll) (h : CllH) (k : Nat) (p : Pcl) (nx : Int) (xs : List Pcl) (B1 B3 B4 B5 : List Nat) (w : World) (hx : CX w c h B1 B3 B4 B5)
    (hxs : c.outs[k]? = some xs) (hnx : c.next[k]? = some nx) (h0 : 0 ≤ nx) (h1 : nx ≤ 5000) (hn : xs.length ≤ 1048576) :
    Calls Try.prog 142 #[.agg #[.int .i64 c.cell, .slice h.a1 c.wk.length h.c1, .int .i64 c.ground, .slice h.a3 c.outs.length h.c3, .slice h.a4 c.next.length h.c4, .slice h.a5 c.ins.length h.c5], .int .i64 k, .agg #[.int .i64 p.n, .int .i64 p.kind, .int .i64 p.wk.id, .int .i64 p.wk.at_, .int .i64 p.wk.coins, .int .i64 p.wk.seq, .int .i64 p.wk.last, .int .i64 p.coins]] w fun e w' => ∃ B3', e = .returned (.tuple #[.agg #[.int .i64 c.cell, .slice h.a1 c.wk.length h.c1, .int .i64 c.ground, .slice h.a3 c.outs.length h.c3, .slice h.a4 c.next.length h.c4, .slice h.a5 c.ins.length h.c5], .bool (!(nx == 5000))]) ∧ CX w' (bif nx == 5000 then c else postC c k p) h B1 B3' B4 B5 ∧ Chg (B3 ++ B4) w w' ∧ (∀ b ∈ B3', b ∈ B3 ∨ w.heap.size ≤ b) := by
  obtain ⟨a1, c1, a3, c3, a4, c4, a5, c5⟩ := h
  have HX := hid hx
  have hs3 : k < c.outs.length := (List.getElem?_eq_some_iff.1 hxs).1
  have hs4 : k < c.next.length := (List.getElem?_eq_some_iff.1 hnx).1
  have HPC := hid (postC_eq hxs hnx p)
  obtain ⟨g4, cur4, y4, e4, hB4, hl4, hc4, hy4, hb4, hz4, hv4, hu4⟩ := hx.x4.at Nat.one_pos (fun _ => rfl) hs4
  rw [hnx] at hy4
  obtain rfl := Option.some.inj hy4
  obtain ⟨g3, cur3, e, ys, Bj, e3, hg3, hl3, hc3, hys, hb3, hz3, hv3, hre, hBj, hu3⟩ := hx.x3.at hs3
  rw [hxs] at hys
  obtain rfl := Option.some.inj hys
  dsimp only at e3 e4
  subst e3 e4 hB4
  have hen := hre.len
  obtain ⟨ea, en, ec⟩ := e
  dsimp only at hen hv3 hre
  subst hen
  have f4 : w.cell? ⟨g4, k, none⟩ = some (.int .i64 nx) := (cell_blk hb4 k).trans (by have := hv4 0 _ rfl; simpa using this)
  have f3 : w.cell? ⟨g3, k, none⟩ = some (.slice ea xs.length ec) := (cell_blk hb3 k).trans hv3
  have l4 := lt_blk hb4
  have l3 := lt_blk hb3
  have hm := hx.x3.max
  have hm4 := hx.x4.max
  simp only [maxLen] at hm hm4
  have h34 : g3 ≠ g4 := fun e => nod_app ((List.nodup_append.1 hx.nd).2.1) hg3 (by simp [e])
  have HNJ := hid (show ∀ b ∈ Bj, b ≠ g4 from fun b hb => fun e => nod_app ((List.nodup_append.1 hx.nd).2.1) (hBj b hb).1 (by simp [e]))
  have z3 := frozen_blk hb3 k
  have z4 := frozen_blk hb4 k
  have HB4 := hid hb4
  have HB3 := hid hb3
  have HZ4 := hid hz4
  have HZ3 := hid hz3
  have HU4 := hid hu4
  have HU3 := hid hu3
  have HRE := hid hre
  have HBJ := hid hBj
  have HG3 := hid hg3
  clear hx hxs hnx hu3 hu4 hb3 hb4 hv3 hv4 hre hBj hg3 hz3 hz4 hy4 hys
  by_cases t1 : nx = 5000
  · subst t1
    go_enter Try.func142, Try.ntmps142
    try go_wp2_with (first
        | fail
        | (
          with_reducible refine wp_region_mix (by kernel_rfl) (by decide +kernel) ?_
          repeat (first
            | (refine mix_pure rfl ?_; (first | go_big_quiet_skip | (go_big_quiet_want; go_big_quiet_op; go_big_quiet_on)); refine wpQuiet_nil ?_)
            | (refine mix_skip (by rfl) ?_; (try simp only [Act.put, List.setIfInBounds_toArray, List.set_cons_zero, List.set_cons_succ]))
            | (refine mix_mk rfl (by rfl) (fun K hK => ?_); (first | (go_simp; first | skip)); (show K _ _); refine hK _ _ (show Ext _ _ from zq0) ?_; clear hK K; (try simp only [Act.put, List.setIfInBounds_toArray, List.set_cons_zero, List.set_cons_succ])))
          refine mix_nil ?_)
        | (
          with_reducible refine wp_region_ext (by kernel_rfl) (by kernel_rfl) ?_
          repeat (first | go_big_quiet_skip | (go_big_quiet_want; go_big_quiet_op; first | go_big_quiet_on | (apply Exists.intro; refine ⟨fun _ => ?_, ?_⟩; (fail); (try rw [h1]); (try rw [h2]); (try rw [h3]); (try rw [h4]); (try rw [p1]); (try rw [p2]); (try rw [p3]); (try rw [p4]); (try rw [r1]); (try rw [r2]); (try rw [r3]); (try rw [r4]); (try rw [r5]); (try rw [r6]); (try rw [q3]); (try rw [q4]); (try rw [hp]); (try rw [hq]); go_big_quiet_on)))
          refine wpQuiet_nil ?_
          rintro _ ⟨tq, rfl⟩))
    refine bodyPost_ret (v := .tuple #[.agg #[.int .i64 c.cell, .slice a1 c.wk.length c1, .int .i64 c.ground, .slice (some ⟨g3, 0, none⟩) c.outs.length c3, .slice (some ⟨g4, 0, none⟩) c.next.length c4, .slice a5 c.ins.length c5], .bool false]) (by simp [results, Try.results142, go_sem]) rfl ?_
    exact ⟨rfl, B3, HX.out.of zq0, Chg.of_ext zq0 _, fun b hb => .inl hb⟩
  · have t2 : (nx == 5000) = false := by simpa using t1
    go_enter Try.func142, Try.ntmps142
    go_wp2_with (fail)
    refine wp_gen fun V hV => ?_
    have EV : Ext w V := by rw [hV]; ((try simp only [ext_drew]); (try simp only [ext_ext]); repeat (first | exact Ext.refl _ | with_reducible apply Ext.add | with_reducible apply Ext.dr | apply Ext.alloc | apply Ext.ext | apply Ext.drew | refine Ext.trans ?_ (by assumption)))
    have hT : V.heap[w.heap.size]? = some (.cells #[.int .i64 c.cell, .slice a1 c.wk.length c1, .int .i64 c.ground, .slice (some ⟨g3, 0, none⟩) c.outs.length c3, .slice (some ⟨g4, 0, none⟩) c.next.length c4, .slice a5 c.ins.length c5] 37 (0, 0)) := by rw [hV]; exact blk_alloc (blk_alloc (alloc_last rfl))
    have hP : V.heap[w.heap.size + 1]? = some (.cells #[.int .i64 nx, .int .i64 p.kind, .int .i64 p.wk.id, .int .i64 p.wk.at_, .int .i64 p.wk.coins, .int .i64 p.wk.seq, .int .i64 p.wk.last, .int .i64 p.coins] 45 (0, 0)) := by rw [hV]; exact blk_alloc (alloc_last (by simp))
    have hR6 : V.heap[w.heap.size + 1 + 1]? = some (.cells #[.int .i64 0, .slice none 0 0, .int .i64 0, .slice none 0 0, .slice none 0 0, .slice none 0 0] 37 (0, 0)) := by rw [hV]; exact alloc_last (by simp)
    obtain ⟨R6, hR6e⟩ : ∃ R, w.heap.size + 1 + 1 = R := ⟨_, rfl⟩
    obtain ⟨P, hPe⟩ : ∃ P, w.heap.size + 1 = P := ⟨_, rfl⟩
    obtain ⟨T, hTe⟩ : ∃ T, w.heap.size = T := ⟨_, rfl⟩
    have lP : P < V.heap.size := by rw [← hPe]; exact lt_blk hP
    have lTV : T < V.heap.size := by rw [← hTe]; exact lt_blk hT
    have l6V : R6 < V.heap.size := by rw [← hR6e]; exact lt_blk hR6
    rw [hR6e] at hR6 ⊢
    rw [hPe] at hP ⊢
    rw [hTe] at hT ⊢
    have hRE : RowX V 45 8 Pcl.cells (.slice ea xs.length ec) xs Bj := HRE.out.of EV
    obtain ⟨R, hRl, hRne, hRx⟩ := rowX_R2 hRE
    have HRE2 := hid hRE
    have HRl := hid hRl
    have hBw : ∀ b ∈ Bj, b < w.heap.size := HRE.out.lt
    have l3V := Nat.lt_of_lt_of_le l3 EV.size
    have l4V := Nat.lt_of_lt_of_le l4 EV.size
    obtain ⟨hTR, hRT⟩ := hRx T lTV (fun hb => by have := hBw T hb; omega)
    obtain ⟨hg3R, hRg3⟩ := hRx g3 l3V (fun hb => (HBJ.out g3 hb).2 rfl)
    obtain ⟨hg4R, hRg4⟩ := hRx g4 l4V (fun hb => HNJ.out g4 hb rfl)
    obtain ⟨hPR, hRP⟩ := hRx P lP (fun hb => by have := hBw P hb; omega)
    obtain ⟨h6R, hR6'⟩ := hRx R6 l6V (fun hb => by have := hBw R6 hb; omega)
    have n3T : g3 ≠ T := by omega
    have nT3 : T ≠ g3 := by omega
    have n4T : g4 ≠ T := by omega
    have nT4 : T ≠ g4 := by omega
    have n36 : g3 ≠ R6 := by omega
    have n63 : R6 ≠ g3 := by omega
    have n46 : g4 ≠ R6 := by omega
    have n64 : R6 ≠ g4 := by omega
    have nT6 : T ≠ R6 := by omega
    have n6T : R6 ≠ T := by omega
    have h43 : g4 ≠ g3 := Ne.symm h34
    have f3V := (EV.cell l3 k).trans f3
    have f4V := (EV.cell l4 k).trans f4
    have b3V := (EV.block l3).trans HB3.out
    have b4V := (EV.block l4).trans HB4.out
    have z3V := frozen_blk b3V k
    have z4V := frozen_blk b4V k
    have cT0V := (cell_blk hT 0).trans (show _ = some (Value.int .i64 c.cell) from rfl)
    have cT1V := (cell_blk hT 1).trans (show _ = some (Value.slice a1 c.wk.length c1) from rfl)
    have cT2V := (cell_blk hT 2).trans (show _ = some (Value.int .i64 c.ground) from rfl)
    have cT3V := (cell_blk hT 3).trans (show _ = some (Value.slice (some ⟨g3, 0, none⟩) c.outs.length c3) from rfl)
    have cT4V := (cell_blk hT 4).trans (show _ = some (Value.slice (some ⟨g4, 0, none⟩) c.next.length c4) from rfl)
    have cT5V := (cell_blk hT 5).trans (show _ = some (Value.slice a5 c.ins.length c5) from rfl)
    have c60V := (cell_blk hR6 0).trans (show _ = some (Value.int .i64 0) from rfl)
    have z60V := frozen_blk hR6 0
    have c61V := (cell_blk hR6 1).trans (show _ = some (Value.slice none 0 0) from rfl)
    have z61V := frozen_blk hR6 1
    have c62V := (cell_blk hR6 2).trans (show _ = some (Value.int .i64 0) from rfl)
    have z62V := frozen_blk hR6 2
    have c63V := (cell_blk hR6 3).trans (show _ = some (Value.slice none 0 0) from rfl)
    have z63V := frozen_blk hR6 3
    have c64V := (cell_blk hR6 4).trans (show _ = some (Value.slice none 0 0) from rfl)
    have z64V := frozen_blk hR6 4
    have c65V := (cell_blk hR6 5).trans (show _ = some (Value.slice none 0 0) from rfl)
    have z65V := frozen_blk hR6 5
    have cP0 := (cell_blk hP 0).trans (show _ = some (Value.int .i64 nx) from rfl)
    have cP1 := (cell_blk hP 1).trans (show _ = some (Value.int .i64 p.kind) from rfl)
    have cP2 := (cell_blk hP 2).trans (show _ = some (Value.int .i64 p.wk.id) from rfl)
    have cP3 := (cell_blk hP 3).trans (show _ = some (Value.int .i64 p.wk.at_) from rfl)
    have cP4 := (cell_blk hP 4).trans (show _ = some (Value.int .i64 p.wk.coins) from rfl)
    have cP5 := (cell_blk hP 5).trans (show _ = some (Value.int .i64 p.wk.seq) from rfl)
    have cP6 := (cell_blk hP 6).trans (show _ = some (Value.int .i64 p.wk.last) from rfl)
    have cP7 := (cell_blk hP 7).trans (show _ = some (Value.int .i64 p.coins) from rfl)
    have HEV := hid EV
    have HB3V := hid b3V
    have HB4V := hid b4V
    have HLT := hid (show w.heap.size = T from hTe)
    have HLR := hid (show w.heap.size ≤ R6 from by omega)
    have hlen : xs.length ≤ 4194304 := by omega
    have dG3 : ∀ t, (ext V.drew t).cell? ⟨g3, k, none⟩ = some (.slice ea xs.length ec) := fun t => (ext_cell' _ _ _ _ l3V).trans f3V
    have dZ3 : ∀ t, (ext V.drew t).frozen? ⟨g3, k, none⟩ = false := fun t => (ext_frozen' _ _ _ _ l3V).trans z3V
    clear hV hP hPe hTe hR6e hT hR6 hRE hRl hRx f3 f4 z3 z4 b3V b4V EV hBw
    with_reducible refine wp_region_NR (R) (by kernel_rfl) (by decide +kernel) (by decide +kernel) rfl rfl ?_
    simp only [List.dropLast_cons_cons, List.dropLast_singleton]
    repeat (first
      | (refine mix_pure rfl ?_; (first | go_big_quiet_skip | (go_big_quiet_want; go_big_quiet_op; go_big_quiet_on)); refine wpQuiet_nil ?_)
      | (refine mix_skip (by rfl) ?_; (try simp only [Act.put, List.setIfInBounds_toArray, List.set_cons_zero, List.set_cons_succ]))
      | (refine mix_mk rfl (by rfl) (fun K hK => ?_); (first | (refine wp_appX (cells := Pcl.cells) (k := 8) (bytes := 64) (z := .agg #[.int .i64 0, .int .i64 0, .int .i64 0, .int .i64 0, .int .i64 0, .int .i64 0, .int .i64 0, .int .i64 0]) Try.underlying62 (by kernel_rfl) rfl (by decide) (by decide) (fun _ => rfl) (fun x u hu => by simp only [Pcl.cells, List.mem_cons, List.not_mem_nil, or_false] at hu; rcases hu with rfl | rfl | rfl | rfl | rfl | rfl | rfl | rfl <;> rfl) _ _ rfl rfl (HRE2.out.of zq0) (pclSet p nx) rfl (alloc_last zq2) hlen ?_; intro v2 w2 R2 hr2 hc2 hR2; obtain ⟨sa, sc, e2⟩ := hr2.slice; rw [List.length_append, List.length_singleton] at e2; subst e2; have HR2 := hid hr2; have HRR := hid hR2; have hcR := hc2.mono (B' := [R]) (fun b hb => by rw [HRl.out b hb]; simp); have HC2 := hid hcR; have l32 := chgR_lt zq0 hcR l3V; have lT2 := chgR_lt zq0 hcR lTV; have l42 := chgR_lt zq0 hcR l4V; have l62 := chgR_lt zq0 hcR l6V; have q3 := (chgR_cell zq0 hcR l3V hg3R k).trans f3V; have y3 := (chgR_frozen zq0 hcR l3V hg3R k).trans z3V; have q4 := (chgR_cell zq0 hcR l4V hg4R k).trans f4V; have y4 := (chgR_frozen zq0 hcR l4V hg4R k).trans z4V; have qT0 := (chgR_cell zq0 hcR lTV hTR 0).trans cT0V; have qT1 := (chgR_cell zq0 hcR lTV hTR 1).trans cT1V; have qT2 := (chgR_cell zq0 hcR lTV hTR 2).trans cT2V; have qT3 := (chgR_cell zq0 hcR lTV hTR 3).trans cT3V; have qT4 := (chgR_cell zq0 hcR lTV hTR 4).trans cT4V; have qT5 := (chgR_cell zq0 hcR lTV hTR 5).trans cT5V; have q60 := (chgR_cell zq0 hcR l6V h6R 0).trans c60V; have y60 := (chgR_frozen zq0 hcR l6V h6R 0).trans z60V; have q61 := (chgR_cell zq0 hcR l6V h6R 1).trans c61V; have y61 := (chgR_frozen zq0 hcR l6V h6R 1).trans z61V; have q62 := (chgR_cell zq0 hcR l6V h6R 2).trans c62V; have y62 := (chgR_frozen zq0 hcR l6V h6R 2).trans z62V; have q63 := (chgR_cell zq0 hcR l6V h6R 3).trans c63V; have y63 := (chgR_frozen zq0 hcR l6V h6R 3).trans z63V; have q64 := (chgR_cell zq0 hcR l6V h6R 4).trans c64V; have y64 := (chgR_frozen zq0 hcR l6V h6R 4).trans z64V; have q65 := (chgR_cell zq0 hcR l6V h6R 5).trans c65V; have y65 := (chgR_frozen zq0 hcR l6V h6R 5).trans z65V; have B3w := hid ((chgR_block zq0 hcR l3V hg3R).trans HB3V.out); have B4w := hid ((chgR_block zq0 hcR l4V hg4R).trans HB4V.out); have HCW := hid ((Chg.of_ext (show Ext V _ from zq0) Bj).trans hc2); clear hr2 hc2 hR2 hcR) | (go_simp; first | skip)); (show K _ _); refine hK _ _ (extR_of (by repeat (first | with_reducible exact Chg.refl _ _ | with_reducible apply Chg.drew | with_reducible apply Chg.drewl | with_reducible refine Chg.turn (by simp) | with_reducible refine Chg.both ?_ (by simp) | (with_reducible refine Chg.set ?_ (by simp) _) | with_reducible apply Chg.alloc | with_reducible apply Chg.ext | with_reducible refine Chg.trans ?_ (Hid.out (by assumption))))) ?_; clear hK K; (try simp only [Act.put, List.setIfInBounds_toArray, List.set_cons_zero, List.set_cons_succ])))
    refine mixN_nil (fun K hK => ?_)
    go_simp
    (show K _ _)
    refine hK _ _ ?_
    clear hK K
    (try simp only [Act.put, List.setIfInBounds_toArray, List.set_cons_zero, List.set_cons_succ])
    simp only [Exit.then]
    rename_i hKont
    refine hKont _ _ ?_
    clear hKont
    go_wp2_with (fail)
    go_region
    go_wp2_with (fail)
    refine bodyPost_ret (v := .tuple #[.agg #[.int .i64 c.cell, .slice a1 c.wk.length c1, .int .i64 c.ground, .slice (some ⟨g3, 0, none⟩) c.outs.length c3, .slice (some ⟨g4, 0, none⟩) c.next.length c4, .slice a5 c.ins.length c5], .bool true]) (by simp [results, Try.results142, go_sem, q60, q61, q62, q63, q64, q65, l62]) rfl ?_
    have hc3 : Chg [g3] w2 (w2.setCell ⟨g3, k, none⟩ (.slice sa (xs.length + 1) sc)) := zq1
    have hc4 : Chg [g4] (w2.setCell ⟨g3, k, none⟩ (.slice sa (xs.length + 1) sc)) ((w2.setCell ⟨g3, k, none⟩ (.slice sa (xs.length + 1) sc)).setCell ⟨g4, k, none⟩ (.int .i64 (nx + 1))) := zq1
    have hcw : Chg (g3 :: Bj) w (w2.setCell ⟨g3, k, none⟩ (.slice sa (xs.length + 1) sc)) := (Chg.of_ext HEV.out _).trans ((HCW.out.mono (fun b hb => List.mem_cons_of_mem _ hb)).trans (hc3.mono (by simp)))
    obtain ⟨B2, hss, hb2⟩ := HU3.out (w2.setCell ⟨g3, k, none⟩ (.slice sa (xs.length + 1) sc)) R2 ⟨sa, xs.length + 1, sc⟩ (xs ++ [pclSet p nx]) hcw (by exact blk_set B3w.out) (HR2.out.chg (B' := [g3]) hc3 (fun b hb hm => by
      obtain rfl : b = g3 := by simpa using hm
      rcases HRR.out with e | e
      · rw [e] at hb; exact (HBJ.out b hb).2 rfl
      · rw [e] at hb; have := l3V; simp at hb; omega)) (by
      rcases HRR.out with e | e
      · exact .inl e
      · exact .inr fun b hb => by rw [e] at hb; have := HEV.out.size; simp at hb; omega)
    have hb3 : ∀ b ∈ B2, b ∈ B3 ∨ V.heap.size ≤ b := fun b hb => by
      rcases hb2 b hb with h9 | h9
      · exact .inl h9
      · rcases HRR.out with e | e
        · rw [e] at h9; exact .inl (HBJ.out b h9).1
        · rw [e] at h9; have := HEV.out.size; simp at h9; exact .inr (by omega)
    have hcw3 : Chg B3 w (w2.setCell ⟨g3, k, none⟩ (.slice sa (xs.length + 1) sc)) := hcw.mono fun b hb => by
      rcases List.mem_cons.1 hb with rfl | hb
      · exact HG3.out
      · exact (HBJ.out b hb).1
    have hx1 := HX.out.setOuts hcw3 (by rw [List.length_set]; exact hss) (fun b hb => (hb3 b hb).imp id (fun h9 => Nat.le_trans HEV.out.size h9))
    obtain ⟨u1, u2⟩ := icells_put (cur := cur4) (k := k) (v := nx + 1) (by have := HZ4.out; omega)
    have HR4 := hid ((show RowX ((w2.setCell ⟨g3, k, none⟩ (.slice sa (xs.length + 1) sc)).setCell ⟨g4, k, none⟩ (.int .i64 (nx + 1))) 3 1 icells (.slice (some ⟨g4, 0, none⟩) c.next.length c4) (c.next.set k (nx + 1)) [g4] from HU4.out _ _ _ (by exact blk_set (blk_other B4w.out (Ne.symm h34))) (by simp) u1 u2))
    have hx2 := hx1.setNext hc4 (next' := c.next.set k (nx + 1)) (by rw [List.length_set]; exact HR4.out)
    have hall : Chg (B3 ++ [g4]) w ((w2.setCell ⟨g3, k, none⟩ (.slice sa (xs.length + 1) sc)).setCell ⟨g4, k, none⟩ (.int .i64 (nx + 1))) := (hcw3.mono (fun b hb => List.mem_append_left _ hb)).trans (hc4.mono (fun b hb => List.mem_append_right _ hb))
    have hlt2 : ∀ b ∈ B1 ++ (B2 ++ ([g4] ++ B5)), b ≠ R6 := fun b hb e => by
      have h7 := HLR.out
      have h8 := l6V
      have hold : ∀ b ∈ B1 ++ (B3 ++ ([g4] ++ B5)), b < w.heap.size := HX.out.lt
      rcases List.mem_append.1 hb with h9 | h9
      · have := hold b (by simp [h9]); omega
      · rcases List.mem_append.1 h9 with h9 | h9
        · rcases hb3 b h9 with h9 | h9
          · have := hold b (by simp [h9]); omega
          · omega
        · have := hold b (List.mem_append_right _ (List.mem_append_right _ h9)); omega
    refine ⟨B2, by rw [t2]; rfl, ?_, Chg.up hall (B' := [R6]) zq1 (by simpa using HLR.out), fun b hb => (hb3 b hb).imp id (fun h9 => Nat.le_trans HEV.out.size h9)⟩
    rw [t2, cond_false, HPC.out]
    exact hx2.chg (B' := [R6]) zq1 (fun b hb => by simpa using hlt2 b hb)
end Go.Proofs.Ytablgohncilmfaa

namespace Go.Proofs.Ytablgohncilmfaa
open Go.RowKit
set_option linter.unusedSimpArgs false
set_option linter.unusedVariables false

def SR (w : World) (B1 B3 B4 B5 : List Nat) (v : Cll) (q : Value) (e : Ending) (w' : World) : Prop :=
  ∃ (h' : CllH) (B1' B3' : List Nat), e = .returned (.tuple #[.agg #[.int .i64 v.cell, .slice h'.a1 v.wk.length h'.c1, .int .i64 v.ground, .slice h'.a3 v.outs.length h'.c3, .slice h'.a4 v.next.length h'.c4, .slice h'.a5 v.ins.length h'.c5], q]) ∧ CX w' v h' B1' B3' B4 B5 ∧ Chg (B3 ++ B4) w w' ∧ ∀ b ∈ B1' ++ B3', b ∈ B1 ++ B3 ∨ w.heap.size ≤ b
set_option maxRecDepth 100000 in
set_option maxHeartbeats 4000000 in
theorem l5Drop_c (c : Cll) (h : CllH) (y : Wlk) (n : Int) (B1 B3 B4 B5 : List Nat) (w : World) (hx : CX w c h B1 B3 B4 B5) (hl : c.wk.length ≤ 1048576) (hg : 0 ≤ c.ground ∧ c.ground ≤ 900) (hy : 0 ≤ y.coins ∧ y.coins ≤ 99) (hn : 0 ≤ n ∧ n ≤ 9) :
    Calls Try.prog 133 #[.agg #[.int .i64 c.cell, .slice h.a1 c.wk.length h.c1, .int .i64 c.ground, .slice h.a3 c.outs.length h.c3, .slice h.a4 c.next.length h.c4, .slice h.a5 c.ins.length h.c5], .agg #[.int .i64 y.id, .int .i64 y.at_, .int .i64 y.coins, .int .i64 y.seq, .int .i64 y.last], .int .i64 n] w (SR w B1 B3 B4 B5 (sDrop c y n).1 (.int .i64 (sDrop c y n).2)) := by
  obtain ⟨a1, c1, a3, c3, a4, c4, a5, c5⟩ := h
  obtain ⟨g0, g1⟩ := hg
  obtain ⟨y0, y1⟩ := hy
  obtain ⟨n0, n1⟩ := hn
  have HX := hid hx
  have HRe := hid hx.re.r1
  clear hx
  by_cases u1 : y.coins < n
  · have E := hid (show sDrop c y n = (c, 3) by simp only [sDrop, u1, if_true])
    rw [E.out]
    go_enter Try.func133, Try.ntmps133
    try go_wp2_with (first
        | fail
        | (
          with_reducible refine wp_region_mix (by kernel_rfl) (by decide +kernel) ?_
          repeat (first
            | (refine mix_pure rfl ?_; (first | go_big_quiet_skip | (go_big_quiet_want; go_big_quiet_op; go_big_quiet_on)); refine wpQuiet_nil ?_)
            | (refine mix_skip (by rfl) ?_; (try simp only [Act.put, List.setIfInBounds_toArray, List.set_cons_zero, List.set_cons_succ]))
            | (refine mix_mk rfl (by rfl) (fun K hK => ?_); (first | (go_simp; first | skip)); (show K _ _); refine hK _ _ (show Ext _ _ from zq0) ?_; clear hK K; (try simp only [Act.put, List.setIfInBounds_toArray, List.set_cons_zero, List.set_cons_succ])))
          refine mix_nil ?_)
        | (
          with_reducible refine wp_region_ext (by kernel_rfl) (by kernel_rfl) ?_
          repeat (first | go_big_quiet_skip | (go_big_quiet_want; go_big_quiet_op; first | go_big_quiet_on | (apply Exists.intro; refine ⟨fun _ => ?_, ?_⟩; (fail); (try rw [h1]); (try rw [h2]); (try rw [h3]); (try rw [h4]); (try rw [p1]); (try rw [p2]); (try rw [p3]); (try rw [p4]); (try rw [r1]); (try rw [r2]); (try rw [r3]); (try rw [r4]); (try rw [r5]); (try rw [r6]); (try rw [q3]); (try rw [q4]); (try rw [hp]); (try rw [hq]); go_big_quiet_on)))
          refine wpQuiet_nil ?_
          rintro _ ⟨tq, rfl⟩))
    refine bodyPost_ret (v := .tuple #[.agg #[.int .i64 c.cell, .slice a1 c.wk.length c1, .int .i64 c.ground, .slice a3 c.outs.length c3, .slice a4 c.next.length c4, .slice a5 c.ins.length c5], .int .i64 3]) (by simp [results, Try.results133, go_sem]) rfl ?_
    exact ⟨⟨a1, c1, a3, c3, a4, c4, a5, c5⟩, B1, B3, rfl, HX.out.of zq0, Chg.of_ext zq0 _, fun b hb => .inl hb⟩
  · by_cases u2 : c.ground + n > 900
    · have E := hid (show sDrop c y n = (c, 5) by simp only [sDrop, u1, u2, if_true, if_false])
      rw [E.out]
      go_enter Try.func133, Try.ntmps133
      try go_wp2_with (first
          | fail
          | (
            with_reducible refine wp_region_mix (by kernel_rfl) (by decide +kernel) ?_
            repeat (first
              | (refine mix_pure rfl ?_; (first | go_big_quiet_skip | (go_big_quiet_want; go_big_quiet_op; go_big_quiet_on)); refine wpQuiet_nil ?_)
              | (refine mix_skip (by rfl) ?_; (try simp only [Act.put, List.setIfInBounds_toArray, List.set_cons_zero, List.set_cons_succ]))
              | (refine mix_mk rfl (by rfl) (fun K hK => ?_); (first | (go_simp; first | skip)); (show K _ _); refine hK _ _ (show Ext _ _ from zq0) ?_; clear hK K; (try simp only [Act.put, List.setIfInBounds_toArray, List.set_cons_zero, List.set_cons_succ])))
            refine mix_nil ?_)
          | (
            with_reducible refine wp_region_ext (by kernel_rfl) (by kernel_rfl) ?_
            repeat (first | go_big_quiet_skip | (go_big_quiet_want; go_big_quiet_op; first | go_big_quiet_on | (apply Exists.intro; refine ⟨fun _ => ?_, ?_⟩; (fail); (try rw [h1]); (try rw [h2]); (try rw [h3]); (try rw [h4]); (try rw [p1]); (try rw [p2]); (try rw [p3]); (try rw [p4]); (try rw [r1]); (try rw [r2]); (try rw [r3]); (try rw [r4]); (try rw [r5]); (try rw [r6]); (try rw [q3]); (try rw [q4]); (try rw [hp]); (try rw [hq]); go_big_quiet_on)))
            refine wpQuiet_nil ?_
            rintro _ ⟨tq, rfl⟩))
      refine bodyPost_ret (v := .tuple #[.agg #[.int .i64 c.cell, .slice a1 c.wk.length c1, .int .i64 c.ground, .slice a3 c.outs.length c3, .slice a4 c.next.length c4, .slice a5 c.ins.length c5], .int .i64 5]) (by simp [results, Try.results133, go_sem]) rfl ?_
      exact ⟨⟨a1, c1, a3, c3, a4, c4, a5, c5⟩, B1, B3, rfl, HX.out.of zq0, Chg.of_ext zq0 _, fun b hb => .inl hb⟩
    · have E := hid (show sDrop c y n = ({ putC c { y with coins := y.coins - n } with ground := c.ground + n }, 1) by simp only [sDrop, u1, u2, if_false])
      rw [E.out]
      go_enter Try.func133, Try.ntmps133
      try go_wp2_with (first
          | (go_at_call 95; (with_reducible refine (sWlkPut_c c.wk { y with coins := y.coins - n } _ _ _ _ (HRe.out.of zq0) hl).mono ?_); rintro e w' ⟨p1, r1, D1, rfl, ⟨t, rfl⟩, ho, hb⟩; have HR := hid ho; have HD := hid hb; clear ho hb)
          | (
            with_reducible refine wp_region_mix (by kernel_rfl) (by decide +kernel) ?_
            repeat (first
              | (refine mix_pure rfl ?_; (first | go_big_quiet_skip | (go_big_quiet_want; go_big_quiet_op; go_big_quiet_on)); refine wpQuiet_nil ?_)
              | (refine mix_skip (by rfl) ?_; (try simp only [Act.put, List.setIfInBounds_toArray, List.set_cons_zero, List.set_cons_succ]))
              | (refine mix_mk rfl (by rfl) (fun K hK => ?_); (first | (go_simp; first | (go_at_call 95; (with_reducible refine (sWlkPut_c c.wk { y with coins := y.coins - n } _ _ _ _ (HRe.out.of zq0) hl).mono ?_); rintro e w' ⟨p1, r1, D1, rfl, ⟨t, rfl⟩, ho, hb⟩; have HR := hid ho; have HD := hid hb; clear ho hb) | skip)); (show K _ _); refine hK _ _ (show Ext _ _ from zq0) ?_; clear hK K; (try simp only [Act.put, List.setIfInBounds_toArray, List.set_cons_zero, List.set_cons_succ])))
            refine mix_nil ?_)
          | (
            with_reducible refine wp_region_ext (by kernel_rfl) (by kernel_rfl) ?_
            repeat (first | go_big_quiet_skip | (go_big_quiet_want; go_big_quiet_op; first | go_big_quiet_on | (apply Exists.intro; refine ⟨fun _ => ?_, ?_⟩; (fail); (try rw [h1]); (try rw [h2]); (try rw [h3]); (try rw [h4]); (try rw [p1]); (try rw [p2]); (try rw [p3]); (try rw [p4]); (try rw [r1]); (try rw [r2]); (try rw [r3]); (try rw [r4]); (try rw [r5]); (try rw [r6]); (try rw [q3]); (try rw [q4]); (try rw [hp]); (try rw [hq]); go_big_quiet_on)))
            refine wpQuiet_nil ?_
            rintro _ ⟨tq, rfl⟩))
      refine bodyPost_ret (v := .tuple #[.agg #[.int .i64 c.cell, .slice p1 (wlkPut c.wk { y with coins := y.coins - n }).length r1, .int .i64 (c.ground + n), .slice a3 c.outs.length c3, .slice a4 c.next.length c4, .slice a5 c.ins.length c5], .int .i64 1]) (by simp [results, Try.results133, go_sem]) rfl ?_
      exact ⟨⟨p1, r1, a3, c3, a4, c4, a5, c5⟩, D1, B3, rfl, (HX.out.setWk (Chg.of_ext zq0 _) (HR.out.fin HD.out zq0 (by simp)) (fun b hb => .inr (Nat.le_trans zq2 (HD.out b hb)))).flat rfl rfl rfl rfl, Chg.of_ext zq0 _, fun b hb => by
        rcases List.mem_append.1 hb with hb | hb
        · exact .inr (Nat.le_trans zq2 (HD.out b hb))
        · exact .inl (by simp [hb])⟩
set_option maxRecDepth 100000 in
set_option maxHeartbeats 4000000 in
theorem l5Pick_c (c : Cll) (h : CllH) (y : Wlk) (n : Int) (B1 B3 B4 B5 : List Nat) (w : World) (hx : CX w c h B1 B3 B4 B5) (hl : c.wk.length ≤ 1048576) (hg : 0 ≤ c.ground ∧ c.ground ≤ 900) (hy : 0 ≤ y.coins ∧ y.coins ≤ 99) (hn : 0 ≤ n ∧ n ≤ 9) :
    Calls Try.prog 134 #[.agg #[.int .i64 c.cell, .slice h.a1 c.wk.length h.c1, .int .i64 c.ground, .slice h.a3 c.outs.length h.c3, .slice h.a4 c.next.length h.c4, .slice h.a5 c.ins.length h.c5], .agg #[.int .i64 y.id, .int .i64 y.at_, .int .i64 y.coins, .int .i64 y.seq, .int .i64 y.last], .int .i64 n] w (SR w B1 B3 B4 B5 (sPick c y n).1 (.int .i64 (sPick c y n).2)) := by
  obtain ⟨a1, c1, a3, c3, a4, c4, a5, c5⟩ := h
  obtain ⟨g0, g1⟩ := hg
  obtain ⟨y0, y1⟩ := hy
  obtain ⟨n0, n1⟩ := hn
  have HX := hid hx
  have HRe := hid hx.re.r1
  clear hx
  by_cases u1 : c.ground < n
  · have E := hid (show sPick c y n = (c, 6) by simp only [sPick, u1, if_true])
    rw [E.out]
    go_enter Try.func134, Try.ntmps134
    try go_wp2_with (first
        | fail
        | (
          with_reducible refine wp_region_mix (by kernel_rfl) (by decide +kernel) ?_
          repeat (first
            | (refine mix_pure rfl ?_; (first | go_big_quiet_skip | (go_big_quiet_want; go_big_quiet_op; go_big_quiet_on)); refine wpQuiet_nil ?_)
            | (refine mix_skip (by rfl) ?_; (try simp only [Act.put, List.setIfInBounds_toArray, List.set_cons_zero, List.set_cons_succ]))
            | (refine mix_mk rfl (by rfl) (fun K hK => ?_); (first | (go_simp; first | skip)); (show K _ _); refine hK _ _ (show Ext _ _ from zq0) ?_; clear hK K; (try simp only [Act.put, List.setIfInBounds_toArray, List.set_cons_zero, List.set_cons_succ])))
          refine mix_nil ?_)
        | (
          with_reducible refine wp_region_ext (by kernel_rfl) (by kernel_rfl) ?_
          repeat (first | go_big_quiet_skip | (go_big_quiet_want; go_big_quiet_op; first | go_big_quiet_on | (apply Exists.intro; refine ⟨fun _ => ?_, ?_⟩; (fail); (try rw [h1]); (try rw [h2]); (try rw [h3]); (try rw [h4]); (try rw [p1]); (try rw [p2]); (try rw [p3]); (try rw [p4]); (try rw [r1]); (try rw [r2]); (try rw [r3]); (try rw [r4]); (try rw [r5]); (try rw [r6]); (try rw [q3]); (try rw [q4]); (try rw [hp]); (try rw [hq]); go_big_quiet_on)))
          refine wpQuiet_nil ?_
          rintro _ ⟨tq, rfl⟩))
    refine bodyPost_ret (v := .tuple #[.agg #[.int .i64 c.cell, .slice a1 c.wk.length c1, .int .i64 c.ground, .slice a3 c.outs.length c3, .slice a4 c.next.length c4, .slice a5 c.ins.length c5], .int .i64 6]) (by simp [results, Try.results134, go_sem]) rfl ?_
    exact ⟨⟨a1, c1, a3, c3, a4, c4, a5, c5⟩, B1, B3, rfl, HX.out.of zq0, Chg.of_ext zq0 _, fun b hb => .inl hb⟩
  · by_cases u2 : y.coins + n > 99
    · have E := hid (show sPick c y n = (c, 5) by simp only [sPick, u1, u2, if_true, if_false])
      rw [E.out]
      go_enter Try.func134, Try.ntmps134
      try go_wp2_with (first
          | fail
          | (
            with_reducible refine wp_region_mix (by kernel_rfl) (by decide +kernel) ?_
            repeat (first
              | (refine mix_pure rfl ?_; (first | go_big_quiet_skip | (go_big_quiet_want; go_big_quiet_op; go_big_quiet_on)); refine wpQuiet_nil ?_)
              | (refine mix_skip (by rfl) ?_; (try simp only [Act.put, List.setIfInBounds_toArray, List.set_cons_zero, List.set_cons_succ]))
              | (refine mix_mk rfl (by rfl) (fun K hK => ?_); (first | (go_simp; first | skip)); (show K _ _); refine hK _ _ (show Ext _ _ from zq0) ?_; clear hK K; (try simp only [Act.put, List.setIfInBounds_toArray, List.set_cons_zero, List.set_cons_succ])))
            refine mix_nil ?_)
          | (
            with_reducible refine wp_region_ext (by kernel_rfl) (by kernel_rfl) ?_
            repeat (first | go_big_quiet_skip | (go_big_quiet_want; go_big_quiet_op; first | go_big_quiet_on | (apply Exists.intro; refine ⟨fun _ => ?_, ?_⟩; (fail); (try rw [h1]); (try rw [h2]); (try rw [h3]); (try rw [h4]); (try rw [p1]); (try rw [p2]); (try rw [p3]); (try rw [p4]); (try rw [r1]); (try rw [r2]); (try rw [r3]); (try rw [r4]); (try rw [r5]); (try rw [r6]); (try rw [q3]); (try rw [q4]); (try rw [hp]); (try rw [hq]); go_big_quiet_on)))
            refine wpQuiet_nil ?_
            rintro _ ⟨tq, rfl⟩))
      refine bodyPost_ret (v := .tuple #[.agg #[.int .i64 c.cell, .slice a1 c.wk.length c1, .int .i64 c.ground, .slice a3 c.outs.length c3, .slice a4 c.next.length c4, .slice a5 c.ins.length c5], .int .i64 5]) (by simp [results, Try.results134, go_sem]) rfl ?_
      exact ⟨⟨a1, c1, a3, c3, a4, c4, a5, c5⟩, B1, B3, rfl, HX.out.of zq0, Chg.of_ext zq0 _, fun b hb => .inl hb⟩
    · have E := hid (show sPick c y n = ({ putC c { y with coins := y.coins + n } with ground := c.ground - n }, 1) by simp only [sPick, u1, u2, if_false])
      rw [E.out]
      go_enter Try.func134, Try.ntmps134
      try go_wp2_with (first
          | (go_at_call 95; (with_reducible refine (sWlkPut_c c.wk { y with coins := y.coins + n } _ _ _ _ (HRe.out.of zq0) hl).mono ?_); rintro e w' ⟨p1, r1, D1, rfl, ⟨t, rfl⟩, ho, hb⟩; have HR := hid ho; have HD := hid hb; clear ho hb)
          | (
            with_reducible refine wp_region_mix (by kernel_rfl) (by decide +kernel) ?_
            repeat (first
              | (refine mix_pure rfl ?_; (first | go_big_quiet_skip | (go_big_quiet_want; go_big_quiet_op; go_big_quiet_on)); refine wpQuiet_nil ?_)
              | (refine mix_skip (by rfl) ?_; (try simp only [Act.put, List.setIfInBounds_toArray, List.set_cons_zero, List.set_cons_succ]))
              | (refine mix_mk rfl (by rfl) (fun K hK => ?_); (first | (go_simp; first | (go_at_call 95; (with_reducible refine (sWlkPut_c c.wk { y with coins := y.coins + n } _ _ _ _ (HRe.out.of zq0) hl).mono ?_); rintro e w' ⟨p1, r1, D1, rfl, ⟨t, rfl⟩, ho, hb⟩; have HR := hid ho; have HD := hid hb; clear ho hb) | skip)); (show K _ _); refine hK _ _ (show Ext _ _ from zq0) ?_; clear hK K; (try simp only [Act.put, List.setIfInBounds_toArray, List.set_cons_zero, List.set_cons_succ])))
            refine mix_nil ?_)
          | (
            with_reducible refine wp_region_ext (by kernel_rfl) (by kernel_rfl) ?_
            repeat (first | go_big_quiet_skip | (go_big_quiet_want; go_big_quiet_op; first | go_big_quiet_on | (apply Exists.intro; refine ⟨fun _ => ?_, ?_⟩; (fail); (try rw [h1]); (try rw [h2]); (try rw [h3]); (try rw [h4]); (try rw [p1]); (try rw [p2]); (try rw [p3]); (try rw [p4]); (try rw [r1]); (try rw [r2]); (try rw [r3]); (try rw [r4]); (try rw [r5]); (try rw [r6]); (try rw [q3]); (try rw [q4]); (try rw [hp]); (try rw [hq]); go_big_quiet_on)))
            refine wpQuiet_nil ?_
            rintro _ ⟨tq, rfl⟩))
      refine bodyPost_ret (v := .tuple #[.agg #[.int .i64 c.cell, .slice p1 (wlkPut c.wk { y with coins := y.coins + n }).length r1, .int .i64 (c.ground - n), .slice a3 c.outs.length c3, .slice a4 c.next.length c4, .slice a5 c.ins.length c5], .int .i64 1]) (by simp [results, Try.results134, go_sem]) rfl ?_
      exact ⟨⟨p1, r1, a3, c3, a4, c4, a5, c5⟩, D1, B3, rfl, (HX.out.setWk (Chg.of_ext zq0 _) (HR.out.fin HD.out zq0 (by simp)) (fun b hb => .inr (Nat.le_trans zq2 (HD.out b hb)))).flat rfl rfl rfl rfl, Chg.of_ext zq0 _, fun b hb => by
        rcases List.mem_append.1 hb with hb | hb
        · exact .inr (Nat.le_trans zq2 (HD.out b hb))
        · exact .inl (by simp [hb])⟩
end Go.Proofs.Ytablgohncilmfaa

namespace Go.Proofs.Ytablgohncilmfaa
open Go.RowKit
set_option linter.unusedSimpArgs false
set_option linter.unusedVariables false

theorem sPlcCell_g (m : Mp) (p b : Int) (w : World) (h : Hid (plcCell m p = b)) : Calls Try.prog 84 #[.agg #[.int .i64 m.c, .int .i64 m.w], .int .i64 p] w fun e w' => e = .returned (.int .i64 b) ∧ Ext w w' := by
  have := sPlcCell_c m p w
  rwa [h.out] at this
/-- The walkers of a cell replaced by a row that lies elsewhere. -/
theorem CX.putWk {w : World} {c : Cll} {h : CllH} {B1 B1' B3 B4 B5 : List Nat} {wk' : List Wlk} {a1 : Option Addr} {c1 : Nat} (x : CX w c h B1 B3 B4 B5) (hr : RowX w 43 5 Wlk.cells (.slice a1 wk'.length c1) wk' B1') (hd : ∀ b ∈ B1', b ∉ B3 ++ (B4 ++ B5)) :
    CX w { c with wk := wk' } { h with a1 := a1, c1 := c1 } B1' B3 B4 B5 :=
  ⟨hr, x.x3, x.x4, x.x5, List.nodup_append.2 ⟨hr.nodup, (List.nodup_append.1 x.nd).2.1, fun a ha b hb e => hd a ha (e ▸ hb)⟩⟩
set_option maxRecDepth 100000 in
set_option maxHeartbeats 4000000 in
theorem l5Step_c (m : Mp) (c : Cll) (h : CllH) (y : Wlk) (side : Int) (B1 B3 B4 B5 : List Nat) (w : World) (hx : CX w c h B1 B3 B4 B5) (F : CllF m c) (hy : 0 ≤ y.at_ ∧ y.at_ ≤ 31) (hs : 0 ≤ side ∧ side ≤ 1) :
    Calls Try.prog 131 #[.agg #[.int .i64 m.c, .int .i64 m.w], .agg #[.int .i64 c.cell, .slice h.a1 c.wk.length h.c1, .int .i64 c.ground, .slice h.a3 c.outs.length h.c3, .slice h.a4 c.next.length h.c4, .slice h.a5 c.ins.length h.c5], .agg #[.int .i64 y.id, .int .i64 y.at_, .int .i64 y.coins, .int .i64 y.seq, .int .i64 y.last], .int .i64 side] w (SR w B1 B3 B4 B5 (sStep m c y side).1 (.int .i64 (sStep m c y side).2)) := by
  obtain ⟨a1, c1, a3, c3, a4, c4, a5, c5⟩ := h
  obtain ⟨y0, y1⟩ := hy
  have hl : c.wk.length ≤ 1048576 := by have := F.wl; omega
  have HX := hid hx
  have HRe := hid hx.re.r1
  have hs3 : side = 0 ∨ side = 1 := by omega
  clear hs
  rcases hs3 with rfl | rfl
  · obtain ⟨xs, nx, ix, hxs, hnx, _, _, ⟨nx0, nx1⟩, _, hxl, _⟩ := F.side 0 (by decide)
    have HXS := hid hxs
    have HNX := hid hnx
    have hna : nextAt c 0 = nx := nextAt_eq hnx
    clear hx hxs hnx F
    obtain ⟨pc, hpc⟩ : ∃ pc, plcCell m (y.at_ - 1) = pc := ⟨_, rfl⟩
    have HPC := hid hpc
    have eA : y.at_ + (2 * 0 - 1) = y.at_ - 1 := by omega
    have EK := hid (show sStep m c y 0 = if pc = -1 then (c, 2) else if pc = c.cell then (putC c { y with at_ := y.at_ - 1 }, 1) else if nx = 5000 then (c, 2) else ({ postC c 0 ⟨0, 1, { y with at_ := y.at_ - 1, last := 1 }, 0⟩ with wk := wlkOut c.wk y.id }, 1) by simp only [sStep, eA, hpc, hna])
    have HNA := hid hna
    clear hpc eA hna
    by_cases v1 : pc = -1
    · subst v1
      have E := hid (show sStep m c y 0 = (c, 2) by rw [EK.out, if_pos rfl])
      rw [E.out]
      go_enter Try.func131, Try.ntmps131
      try go_wp2_with (first
          | (go_at_call 84; refine (sPlcCell_g _ _ _ _ (by assumption)).mono ?_; rintro e w' ⟨rfl, t, rfl⟩)
          | (
            with_reducible refine wp_region_mix (by kernel_rfl) (by decide +kernel) ?_
            repeat (first
              | (refine mix_pure rfl ?_; (first | go_big_quiet_skip | (go_big_quiet_want; go_big_quiet_op; go_big_quiet_on)); refine wpQuiet_nil ?_)
              | (refine mix_skip (by rfl) ?_; (try simp only [Act.put, List.setIfInBounds_toArray, List.set_cons_zero, List.set_cons_succ]))
              | (refine mix_mk rfl (by rfl) (fun K hK => ?_); (first | (go_simp; first | (go_at_call 84; refine (sPlcCell_g _ _ _ _ (by assumption)).mono ?_; rintro e w' ⟨rfl, t, rfl⟩) | skip)); (show K _ _); refine hK _ _ (show Ext _ _ from zq0) ?_; clear hK K; (try simp only [Act.put, List.setIfInBounds_toArray, List.set_cons_zero, List.set_cons_succ])))
            refine mix_nil ?_)
          | (
            with_reducible refine wp_region_ext (by kernel_rfl) (by kernel_rfl) ?_
            repeat (first | go_big_quiet_skip | (go_big_quiet_want; go_big_quiet_op; first | go_big_quiet_on | (apply Exists.intro; refine ⟨fun _ => ?_, ?_⟩; ((first | (go_at_call 84; first | exact quiet_call (sPlcCell_g _ _ _ _ (by assumption)) | exact quiet_call2 (sPlcCell_g _ _ _ _ (by assumption))))); (try rw [h1]); (try rw [h2]); (try rw [h3]); (try rw [h4]); (try rw [p1]); (try rw [p2]); (try rw [p3]); (try rw [p4]); (try rw [r1]); (try rw [r2]); (try rw [r3]); (try rw [r4]); (try rw [r5]); (try rw [r6]); (try rw [q3]); (try rw [q4]); (try rw [hp]); (try rw [hq]); go_big_quiet_on)))
            refine wpQuiet_nil ?_
            rintro _ ⟨tq, rfl⟩))
      refine bodyPost_ret (v := .tuple #[.agg #[.int .i64 c.cell, .slice a1 c.wk.length c1, .int .i64 c.ground, .slice a3 c.outs.length c3, .slice a4 c.next.length c4, .slice a5 c.ins.length c5], .int .i64 2]) (by simp [results, Try.results131, go_sem]) rfl ?_
      exact ⟨⟨a1, c1, a3, c3, a4, c4, a5, c5⟩, B1, B3, rfl, HX.out.of zq0, Chg.of_ext zq0 _, fun b hb => .inl hb⟩
    · have w1 : (pc == -1) = false := by simpa using v1
      by_cases v2 : pc = c.cell
      · have w2 : (pc == c.cell) = true := by simpa using v2
        have E := hid (show sStep m c y 0 = (putC c { y with at_ := y.at_ - 1 }, 1) by rw [EK.out, if_neg v1, if_pos v2])
        clear v2
        rw [E.out]
        go_enter Try.func131, Try.ntmps131
        try go_wp2_with (first
            | (go_at_call 84; refine (sPlcCell_g _ _ _ _ (by assumption)).mono ?_; rintro e w' ⟨rfl, t, rfl⟩) | (go_at_call 95; (with_reducible refine (sWlkPut_c c.wk { y with at_ := y.at_ - 1 } _ _ _ _ (HRe.out.of zq0) hl).mono ?_); rintro e w' ⟨p1, r1, D1, rfl, ⟨t, rfl⟩, ho, hb⟩; have HR := hid ho; have HD := hid hb; clear ho hb)
            | (
              with_reducible refine wp_region_mix (by kernel_rfl) (by decide +kernel) ?_
              repeat (first
                | (refine mix_pure rfl ?_; (first | go_big_quiet_skip | (go_big_quiet_want; go_big_quiet_op; go_big_quiet_on)); refine wpQuiet_nil ?_)
                | (refine mix_skip (by rfl) ?_; (try simp only [Act.put, List.setIfInBounds_toArray, List.set_cons_zero, List.set_cons_succ]))
                | (refine mix_mk rfl (by rfl) (fun K hK => ?_); (first | (go_simp; first | (go_at_call 84; refine (sPlcCell_g _ _ _ _ (by assumption)).mono ?_; rintro e w' ⟨rfl, t, rfl⟩) | (go_at_call 95; (with_reducible refine (sWlkPut_c c.wk { y with at_ := y.at_ - 1 } _ _ _ _ (HRe.out.of zq0) hl).mono ?_); rintro e w' ⟨p1, r1, D1, rfl, ⟨t, rfl⟩, ho, hb⟩; have HR := hid ho; have HD := hid hb; clear ho hb) | skip)); (show K _ _); refine hK _ _ (show Ext _ _ from zq0) ?_; clear hK K; (try simp only [Act.put, List.setIfInBounds_toArray, List.set_cons_zero, List.set_cons_succ])))
              refine mix_nil ?_)
            | (
              with_reducible refine wp_region_ext (by kernel_rfl) (by kernel_rfl) ?_
              repeat (first | go_big_quiet_skip | (go_big_quiet_want; go_big_quiet_op; first | go_big_quiet_on | (apply Exists.intro; refine ⟨fun _ => ?_, ?_⟩; ((first | (go_at_call 84; first | exact quiet_call (sPlcCell_g _ _ _ _ (by assumption)) | exact quiet_call2 (sPlcCell_g _ _ _ _ (by assumption))))); (try rw [h1]); (try rw [h2]); (try rw [h3]); (try rw [h4]); (try rw [p1]); (try rw [p2]); (try rw [p3]); (try rw [p4]); (try rw [r1]); (try rw [r2]); (try rw [r3]); (try rw [r4]); (try rw [r5]); (try rw [r6]); (try rw [q3]); (try rw [q4]); (try rw [hp]); (try rw [hq]); go_big_quiet_on)))
              refine wpQuiet_nil ?_
              rintro _ ⟨tq, rfl⟩))
        refine bodyPost_ret (v := .tuple #[.agg #[.int .i64 c.cell, .slice p1 (wlkPut c.wk { y with at_ := y.at_ - 1 }).length r1, .int .i64 (c.ground), .slice a3 c.outs.length c3, .slice a4 c.next.length c4, .slice a5 c.ins.length c5], .int .i64 1]) (by simp [results, Try.results131, go_sem]) rfl ?_
        refine ⟨⟨p1, r1, a3, c3, a4, c4, a5, c5⟩, D1, B3, rfl, ?_, Chg.of_ext zq0 _, fun b hb => ?_⟩
        · refine CX.flat (c := { c with wk := wlkPut c.wk { y with at_ := y.at_ - 1 } }) ?_ rfl rfl rfl rfl
          have Q := HR.out
          (try rw [ext_ext] at Q)
          exact HX.out.setWk (Chg.of_ext zq0 _) (Q.fin (fun b hb => Nat.le_trans zq2 (HD.out b hb)) zq0 (by simp)) (fun b hb => .inr (Nat.le_trans zq2 (HD.out b hb)))
        · rcases List.mem_append.1 hb with hb | hb
          · exact .inr (Nat.le_trans zq2 (HD.out b hb))
          · exact .inl (by simp [hb])
      · have w2 : (pc == c.cell) = false := by simpa using v2
        by_cases u2 : nx = 5000
        · have E := hid (show sStep m c y 0 = (c, 2) by rw [EK.out, if_neg v1, if_neg v2, if_pos u2])
          rw [E.out]
          go_enter Try.func131, Try.ntmps131
          go_wp2_with (first | (go_at_call 84; refine (sPlcCell_g _ _ _ _ (by assumption)).mono ?_; rintro e w' ⟨rfl, t, rfl⟩))
          refine calls_gen fun Y hY => ?_
          have EY : Ext w Y := by rw [hY]; ((try simp only [ext_drew]); (try simp only [ext_ext]); repeat (first | exact Ext.refl _ | with_reducible apply Ext.add | with_reducible apply Ext.dr | apply Ext.alloc | apply Ext.ext | apply Ext.drew | refine Ext.trans ?_ (by assumption)))
          have hC : Y.heap[w.heap.size + 1]? = some (.cells #[.int .i64 c.cell, .slice a1 c.wk.length c1, .int .i64 c.ground, .slice a3 c.outs.length c3, .slice a4 c.next.length c4, .slice a5 c.ins.length c5] 37 (0, 0)) := by rw [hY]; exact blk_ext (blk_alloc (blk_alloc (alloc_last (by simp))))
          have hYb : Y.heap[w.heap.size + 1 + 1]? = some (.cells #[.int .i64 y.id, .int .i64 (y.at_ - 1), .int .i64 y.coins, .int .i64 y.seq, .int .i64 1] 43 (0, 0)) := by rw [hY]; exact blk_ext (blk_alloc (alloc_last (by simp)))
          have hR6 : Y.heap[w.heap.size + 1 + 1 + 1]? = some (.cells #[.int .i64 0, .slice none 0 0, .int .i64 0, .slice none 0 0, .slice none 0 0, .slice none 0 0] 37 (0, 0)) := by rw [hY]; exact blk_ext (alloc_last (by simp))
          obtain ⟨R6, hR6e⟩ : ∃ R, w.heap.size + 1 + 1 + 1 = R := ⟨_, rfl⟩
          obtain ⟨YB, hYe⟩ : ∃ P, w.heap.size + 1 + 1 = P := ⟨_, rfl⟩
          obtain ⟨C, hCe⟩ : ∃ T, w.heap.size + 1 = T := ⟨_, rfl⟩
          rw [hR6e] at hR6 ⊢
          rw [hYe] at hYb ⊢
          rw [hCe] at hC ⊢
          have HW := hid (show w.heap.size < C ∧ w.heap.size < YB ∧ w.heap.size < R6 ∧ C ≠ R6 ∧ YB ≠ R6 ∧ C ≠ YB from ⟨by omega, by omega, by omega, by omega, by omega, by omega⟩)
          have HEY := hid EY
          clear hY hR6e hYe hCe
          have hBw : ∀ b ∈ B1 ++ (B3 ++ (B4 ++ B5)), b < w.heap.size := HX.out.lt
          have hB3w : ∀ b ∈ B3 ++ B4, b < w.heap.size := fun b hb => hBw b (by simp only [List.mem_append] at hb ⊢; rcases hb with hb | hb <;> simp [hb])
          refine (l5Post_c c ⟨a1, c1, a3, c3, a4, c4, a5, c5⟩ 0 ⟨0, 1, { y with at_ := y.at_ - 1, last := 1 }, 0⟩ nx xs B1 B3 B4 B5 Y (HX.out.of EY) HXS.out HNX.out nx0 nx1 (by omega)).mono ?_
          rintro e Y2 ⟨B3', rfl, hcx, hch, hb3⟩
          obtain ⟨w1, w2, w3, nC6, nY6, nCY⟩ := HW.out
          have hC2 := (hch.block C (lt_blk hC) (fun hb => by have := hB3w _ hb; omega)).trans hC
          have hY2 := (hch.block YB (lt_blk hYb) (fun hb => by have := hB3w _ hb; omega)).trans hYb
          have h62 := (hch.block R6 (lt_blk hR6) (fun hb => by have := hB3w _ hb; omega)).trans hR6
          have u3 : (nx == 5000) = true := by simpa using u2
          rw [u3, cond_true] at hcx
          rw [u3]
          have uC0 := (cell_blk hC2 0).trans (show _ = some (Value.int .i64 c.cell) from rfl)
          have uC1 := (cell_blk hC2 1).trans (show _ = some (Value.slice a1 c.wk.length c1) from rfl)
          have uC2 := (cell_blk hC2 2).trans (show _ = some (Value.int .i64 c.ground) from rfl)
          have uC3 := (cell_blk hC2 3).trans (show _ = some (Value.slice a3 c.outs.length c3) from rfl)
          have uC4 := (cell_blk hC2 4).trans (show _ = some (Value.slice a4 c.next.length c4) from rfl)
          have uC5 := (cell_blk hC2 5).trans (show _ = some (Value.slice a5 c.ins.length c5) from rfl)
          have uY0 := (cell_blk hY2 0).trans (show _ = some (Value.int .i64 y.id) from rfl)
          have uY1 := (cell_blk hY2 1).trans (show _ = some (Value.int .i64 (y.at_ - 1)) from rfl)
          have uY2 := (cell_blk hY2 2).trans (show _ = some (Value.int .i64 y.coins) from rfl)
          have uY3 := (cell_blk hY2 3).trans (show _ = some (Value.int .i64 y.seq) from rfl)
          have uY4 := (cell_blk hY2 4).trans (show _ = some (Value.int .i64 1) from rfl)
          have v0 := (cell_blk h62 0).trans (show _ = some (Value.int .i64 0) from rfl)
          have vz0 := frozen_blk h62 0
          have v1 := (cell_blk h62 1).trans (show _ = some (Value.slice none 0 0) from rfl)
          have vz1 := frozen_blk h62 1
          have v2 := (cell_blk h62 2).trans (show _ = some (Value.int .i64 0) from rfl)
          have vz2 := frozen_blk h62 2
          have v3 := (cell_blk h62 3).trans (show _ = some (Value.slice none 0 0) from rfl)
          have vz3 := frozen_blk h62 3
          have v4 := (cell_blk h62 4).trans (show _ = some (Value.slice none 0 0) from rfl)
          have vz4 := frozen_blk h62 4
          have v5 := (cell_blk h62 5).trans (show _ = some (Value.slice none 0 0) from rfl)
          have vz5 := frozen_blk h62 5
          have lC2 := lt_blk hC2
          have lY2 := lt_blk hY2
          have l62 := lt_blk h62
          have HCX := hid hcx
          have HCH := hid ((Chg.of_ext HEY.out (B3 ++ B4)).trans hch)
          have HB3' := hid (show ∀ b ∈ B3', b ∈ B3 ∨ Y.heap.size ≤ b from hb3)
          have lY6 := lt_blk hR6
          have n6C := Ne.symm nC6
          have n6Y := Ne.symm nY6
          clear hC2 hY2 h62 hcx hch hb3 hC hYb hR6 EY
          have HLT := hid (show ∀ b ∈ B1 ++ (B3' ++ (B4 ++ B5)), b ≠ R6 from fun b hb e => by
            have h9 : b ∈ B1 ++ (B3 ++ (B4 ++ B5)) ∨ Y.heap.size ≤ b := by
              simp only [List.mem_append] at hb ⊢
              rcases hb with h9 | h9 | h9
              · exact .inl (.inl h9)
              · exact (HB3'.out b h9).imp (fun h => .inr (.inl h)) id
              · exact .inl (.inr (.inr h9))
            rcases h9 with h9 | h9
            · have := hBw b h9; omega
            · omega)
          clear hBw hB3w
          try go_wp2_with (first
              | fail
              | (
                with_reducible refine wp_region_mix (by kernel_rfl) (by decide +kernel) ?_
                repeat (first
                  | (refine mix_pure rfl ?_; (first | go_big_quiet_skip | (go_big_quiet_want; go_big_quiet_op; go_big_quiet_on)); refine wpQuiet_nil ?_)
                  | (refine mix_skip (by rfl) ?_; (try simp only [Act.put, List.setIfInBounds_toArray, List.set_cons_zero, List.set_cons_succ]))
                  | (refine mix_mk rfl (by rfl) (fun K hK => ?_); (first | (go_simp; first | skip)); (show K _ _); refine hK _ _ (show Ext _ _ from zq0) ?_; clear hK K; (try simp only [Act.put, List.setIfInBounds_toArray, List.set_cons_zero, List.set_cons_succ])))
                refine mix_nil ?_)
              | (
                with_reducible refine wp_region_ext (by kernel_rfl) (by kernel_rfl) ?_
                repeat (first | go_big_quiet_skip | (go_big_quiet_want; go_big_quiet_op; first | go_big_quiet_on | (apply Exists.intro; refine ⟨fun _ => ?_, ?_⟩; (fail); (try rw [h1]); (try rw [h2]); (try rw [h3]); (try rw [h4]); (try rw [p1]); (try rw [p2]); (try rw [p3]); (try rw [p4]); (try rw [r1]); (try rw [r2]); (try rw [r3]); (try rw [r4]); (try rw [r5]); (try rw [r6]); (try rw [q3]); (try rw [q4]); (try rw [hp]); (try rw [hq]); go_big_quiet_on)))
                refine wpQuiet_nil ?_
                rintro _ ⟨tq, rfl⟩))
          refine bodyPost_ret (v := .tuple #[.agg #[.int .i64 c.cell, .slice a1 c.wk.length c1, .int .i64 c.ground, .slice a3 c.outs.length c3, .slice a4 c.next.length c4, .slice a5 c.ins.length c5], .int .i64 2]) (by simp [results, Try.results131, go_sem, v0, v1, v2, v3, v4, v5, l62, n6C, nC6, n6Y, nY6]) rfl ?_
          refine ⟨⟨a1, c1, a3, c3, a4, c4, a5, c5⟩, B1, B3', rfl, (HCX.out.of zq0).chg (B' := [R6]) zq1 (fun b hb => by simpa using HLT.out b hb), Chg.up HCH.out (B' := [R6]) zq1 (by simp; omega), fun b hb => ?_⟩
          rcases List.mem_append.1 hb with h9 | h9
          · exact .inl (List.mem_append_left _ h9)
          · exact (HB3'.out b h9).imp (fun h => List.mem_append_right _ h) (fun h => Nat.le_trans HEY.out.size h)
        · have E := hid (show sStep m c y 0 = ({ postC c 0 ⟨0, 1, { y with at_ := y.at_ - 1, last := 1 }, 0⟩ with wk := wlkOut c.wk y.id }, 1) by rw [EK.out, if_neg v1, if_neg v2, if_neg u2])
          rw [E.out]
          go_enter Try.func131, Try.ntmps131
          go_wp2_with (first | (go_at_call 84; refine (sPlcCell_g _ _ _ _ (by assumption)).mono ?_; rintro e w' ⟨rfl, t, rfl⟩))
          refine calls_gen fun Y hY => ?_
          have EY : Ext w Y := by rw [hY]; ((try simp only [ext_drew]); (try simp only [ext_ext]); repeat (first | exact Ext.refl _ | with_reducible apply Ext.add | with_reducible apply Ext.dr | apply Ext.alloc | apply Ext.ext | apply Ext.drew | refine Ext.trans ?_ (by assumption)))
          have hC : Y.heap[w.heap.size + 1]? = some (.cells #[.int .i64 c.cell, .slice a1 c.wk.length c1, .int .i64 c.ground, .slice a3 c.outs.length c3, .slice a4 c.next.length c4, .slice a5 c.ins.length c5] 37 (0, 0)) := by rw [hY]; exact blk_ext (blk_alloc (blk_alloc (alloc_last (by simp))))
          have hYb : Y.heap[w.heap.size + 1 + 1]? = some (.cells #[.int .i64 y.id, .int .i64 (y.at_ - 1), .int .i64 y.coins, .int .i64 y.seq, .int .i64 1] 43 (0, 0)) := by rw [hY]; exact blk_ext (blk_alloc (alloc_last (by simp)))
          have hR6 : Y.heap[w.heap.size + 1 + 1 + 1]? = some (.cells #[.int .i64 0, .slice none 0 0, .int .i64 0, .slice none 0 0, .slice none 0 0, .slice none 0 0] 37 (0, 0)) := by rw [hY]; exact blk_ext (alloc_last (by simp))
          obtain ⟨R6, hR6e⟩ : ∃ R, w.heap.size + 1 + 1 + 1 = R := ⟨_, rfl⟩
          obtain ⟨YB, hYe⟩ : ∃ P, w.heap.size + 1 + 1 = P := ⟨_, rfl⟩
          obtain ⟨C, hCe⟩ : ∃ T, w.heap.size + 1 = T := ⟨_, rfl⟩
          rw [hR6e] at hR6 ⊢
          rw [hYe] at hYb ⊢
          rw [hCe] at hC ⊢
          have HW := hid (show w.heap.size < C ∧ w.heap.size < YB ∧ w.heap.size < R6 ∧ C ≠ R6 ∧ YB ≠ R6 ∧ C ≠ YB from ⟨by omega, by omega, by omega, by omega, by omega, by omega⟩)
          have HEY := hid EY
          clear hY hR6e hYe hCe
          have hBw : ∀ b ∈ B1 ++ (B3 ++ (B4 ++ B5)), b < w.heap.size := HX.out.lt
          have hB3w : ∀ b ∈ B3 ++ B4, b < w.heap.size := fun b hb => hBw b (by simp only [List.mem_append] at hb ⊢; rcases hb with hb | hb <;> simp [hb])
          refine (l5Post_c c ⟨a1, c1, a3, c3, a4, c4, a5, c5⟩ 0 ⟨0, 1, { y with at_ := y.at_ - 1, last := 1 }, 0⟩ nx xs B1 B3 B4 B5 Y (HX.out.of EY) HXS.out HNX.out nx0 nx1 (by omega)).mono ?_
          rintro e Y2 ⟨B3', rfl, hcx, hch, hb3⟩
          obtain ⟨w1, w2, w3, nC6, nY6, nCY⟩ := HW.out
          have hC2 := (hch.block C (lt_blk hC) (fun hb => by have := hB3w _ hb; omega)).trans hC
          have hY2 := (hch.block YB (lt_blk hYb) (fun hb => by have := hB3w _ hb; omega)).trans hYb
          have h62 := (hch.block R6 (lt_blk hR6) (fun hb => by have := hB3w _ hb; omega)).trans hR6
          have u3 : (nx == 5000) = false := by simpa using u2
          rw [u3, cond_false] at hcx
          rw [u3]
          have HReP := hid (show Re Y2 (.sl sWlk) [.slice a1 c.wk.length c1] (.l (c.wk.map Wlk.dat)) from hcx.re.r1)
          have uC0 := (cell_blk hC2 0).trans (show _ = some (Value.int .i64 c.cell) from rfl)
          have uC1 := (cell_blk hC2 1).trans (show _ = some (Value.slice a1 c.wk.length c1) from rfl)
          have uC2 := (cell_blk hC2 2).trans (show _ = some (Value.int .i64 c.ground) from rfl)
          have uC3 := (cell_blk hC2 3).trans (show _ = some (Value.slice a3 c.outs.length c3) from rfl)
          have uC4 := (cell_blk hC2 4).trans (show _ = some (Value.slice a4 c.next.length c4) from rfl)
          have uC5 := (cell_blk hC2 5).trans (show _ = some (Value.slice a5 c.ins.length c5) from rfl)
          have uY0 := (cell_blk hY2 0).trans (show _ = some (Value.int .i64 y.id) from rfl)
          have uY1 := (cell_blk hY2 1).trans (show _ = some (Value.int .i64 (y.at_ - 1)) from rfl)
          have uY2 := (cell_blk hY2 2).trans (show _ = some (Value.int .i64 y.coins) from rfl)
          have uY3 := (cell_blk hY2 3).trans (show _ = some (Value.int .i64 y.seq) from rfl)
          have uY4 := (cell_blk hY2 4).trans (show _ = some (Value.int .i64 1) from rfl)
          have v0 := (cell_blk h62 0).trans (show _ = some (Value.int .i64 0) from rfl)
          have vz0 := frozen_blk h62 0
          have v1 := (cell_blk h62 1).trans (show _ = some (Value.slice none 0 0) from rfl)
          have vz1 := frozen_blk h62 1
          have v2 := (cell_blk h62 2).trans (show _ = some (Value.int .i64 0) from rfl)
          have vz2 := frozen_blk h62 2
          have v3 := (cell_blk h62 3).trans (show _ = some (Value.slice none 0 0) from rfl)
          have vz3 := frozen_blk h62 3
          have v4 := (cell_blk h62 4).trans (show _ = some (Value.slice none 0 0) from rfl)
          have vz4 := frozen_blk h62 4
          have v5 := (cell_blk h62 5).trans (show _ = some (Value.slice none 0 0) from rfl)
          have vz5 := frozen_blk h62 5
          have lC2 := lt_blk hC2
          have lY2 := lt_blk hY2
          have l62 := lt_blk h62
          have HCX := hid hcx
          have HCH := hid ((Chg.of_ext HEY.out (B3 ++ B4)).trans hch)
          have HB3' := hid (show ∀ b ∈ B3', b ∈ B3 ∨ Y.heap.size ≤ b from hb3)
          have lY6 := lt_blk hR6
          have n6C := Ne.symm nC6
          have n6Y := Ne.symm nY6
          clear hC2 hY2 h62 hcx hch hb3 hC hYb hR6 EY
          have HLT := hid (show ∀ b ∈ B1 ++ (B3' ++ (B4 ++ B5)), b ≠ R6 from fun b hb e => by
            have h9 : b ∈ B1 ++ (B3 ++ (B4 ++ B5)) ∨ Y.heap.size ≤ b := by
              simp only [List.mem_append] at hb ⊢
              rcases hb with h9 | h9 | h9
              · exact .inl (.inl h9)
              · exact (HB3'.out b h9).imp (fun h => .inr (.inl h)) id
              · exact .inl (.inr (.inr h9))
            rcases h9 with h9 | h9
            · have := hBw b h9; omega
            · omega)
          have HB9 := hid (show ∀ b ∈ B3' ++ (B4 ++ B5), b < Y2.heap.size from fun b hb => HCX.out.lt b (List.mem_append_right _ hb))
          clear hBw hB3w
          try go_wp2_with (first
              | (go_at_call 126; (with_reducible refine (sWlkOut_x c.wk _ _ _ y.id _ (HReP.out.of zq0) hl).mono ?_); rintro e w' ⟨p1, r1, D1, rfl, ⟨t9, rfl⟩, ho, hb⟩; have HR := hid ho; have HD := hid hb; clear ho hb)
              | (
                with_reducible refine wp_region_mix (by kernel_rfl) (by decide +kernel) ?_
                repeat (first
                  | (refine mix_pure rfl ?_; (first | go_big_quiet_skip | (go_big_quiet_want; go_big_quiet_op; go_big_quiet_on)); refine wpQuiet_nil ?_)
                  | (refine mix_skip (by rfl) ?_; (try simp only [Act.put, List.setIfInBounds_toArray, List.set_cons_zero, List.set_cons_succ]))
                  | (refine mix_mk rfl (by rfl) (fun K hK => ?_); (first | (go_simp; first | (go_at_call 126; (with_reducible refine (sWlkOut_x c.wk _ _ _ y.id _ (HReP.out.of zq0) hl).mono ?_); rintro e w' ⟨p1, r1, D1, rfl, ⟨t9, rfl⟩, ho, hb⟩; have HR := hid ho; have HD := hid hb; clear ho hb) | skip)); (show K _ _); refine hK _ _ (show Ext _ _ from zq0) ?_; clear hK K; (try simp only [Act.put, List.setIfInBounds_toArray, List.set_cons_zero, List.set_cons_succ])))
                refine mix_nil ?_)
              | (
                with_reducible refine wp_region_ext (by kernel_rfl) (by kernel_rfl) ?_
                repeat (first | go_big_quiet_skip | (go_big_quiet_want; go_big_quiet_op; first | go_big_quiet_on | (apply Exists.intro; refine ⟨fun _ => ?_, ?_⟩; (fail); (try rw [h1]); (try rw [h2]); (try rw [h3]); (try rw [h4]); (try rw [p1]); (try rw [p2]); (try rw [p3]); (try rw [p4]); (try rw [r1]); (try rw [r2]); (try rw [r3]); (try rw [r4]); (try rw [r5]); (try rw [r6]); (try rw [q3]); (try rw [q4]); (try rw [hp]); (try rw [hq]); go_big_quiet_on)))
                refine wpQuiet_nil ?_
                rintro _ ⟨tq, rfl⟩))
          refine bodyPost_ret (v := .tuple #[.agg #[.int .i64 c.cell, .slice p1 (wlkOut c.wk y.id).length r1, .int .i64 c.ground, .slice a3 c.outs.length c3, .slice a4 c.next.length c4, .slice a5 c.ins.length c5], .int .i64 1]) (by simp [results, Try.results131, go_sem, v0, v1, v2, v3, v4, v5, l62, n6C, nC6, n6Y, nY6]) rfl ?_
          refine ⟨⟨p1, r1, a3, c3, a4, c4, a5, c5⟩, D1, B3', by simp only [postC, List.length_set], ?_, Chg.up HCH.out (B' := [R6]) zq1 (by simp; omega), fun b hb => ?_⟩
          · refine CX.putWk (HCX.out.chg (B' := [R6]) zq1 (fun b hb => by simpa using HLT.out b hb)) ?_ (fun b hb hm => ?_)
            · have Q := HR.out
              (try rw [ext_ext] at Q)
              exact Q.fin (fun b hb => Nat.le_trans zq2 (HD.out b hb)) zq0 (by simp)
            · have h1 := HD.out b hb
              have h2 := HB9.out b hm
              simp [go_sem] at h1
              omega
          · rcases List.mem_append.1 hb with h9 | h9
            · have h1 := HD.out b h9
              have h2 := HCH.out.size
              simp [go_sem] at h1
              exact .inr (by omega)
            · exact (HB3'.out b h9).imp (fun h => List.mem_append_right _ h) (fun h => Nat.le_trans HEY.out.size h)
  · obtain ⟨xs, nx, ix, hxs, hnx, _, _, ⟨nx0, nx1⟩, _, hxl, _⟩ := F.side 1 (by decide)
    have HXS := hid hxs
    have HNX := hid hnx
    have hna : nextAt c 1 = nx := nextAt_eq hnx
    clear hx hxs hnx F
    obtain ⟨pc, hpc⟩ : ∃ pc, plcCell m (y.at_ + 1) = pc := ⟨_, rfl⟩
    have HPC := hid hpc
    have eA : y.at_ + (2 * 1 - 1) = y.at_ + 1 := by omega
    have EK := hid (show sStep m c y 1 = if pc = -1 then (c, 2) else if pc = c.cell then (putC c { y with at_ := y.at_ + 1 }, 1) else if nx = 5000 then (c, 2) else ({ postC c 1 ⟨0, 1, { y with at_ := y.at_ + 1, last := 1 }, 0⟩ with wk := wlkOut c.wk y.id }, 1) by simp only [sStep, eA, hpc, hna])
    have HNA := hid hna
    clear hpc eA hna
    by_cases v1 : pc = -1
    · subst v1
      have E := hid (show sStep m c y 1 = (c, 2) by rw [EK.out, if_pos rfl])
      rw [E.out]
      go_enter Try.func131, Try.ntmps131
      try go_wp2_with (first
          | (go_at_call 84; refine (sPlcCell_g _ _ _ _ (by assumption)).mono ?_; rintro e w' ⟨rfl, t, rfl⟩)
          | (
            with_reducible refine wp_region_mix (by kernel_rfl) (by decide +kernel) ?_
            repeat (first
              | (refine mix_pure rfl ?_; (first | go_big_quiet_skip | (go_big_quiet_want; go_big_quiet_op; go_big_quiet_on)); refine wpQuiet_nil ?_)
              | (refine mix_skip (by rfl) ?_; (try simp only [Act.put, List.setIfInBounds_toArray, List.set_cons_zero, List.set_cons_succ]))
              | (refine mix_mk rfl (by rfl) (fun K hK => ?_); (first | (go_simp; first | (go_at_call 84; refine (sPlcCell_g _ _ _ _ (by assumption)).mono ?_; rintro e w' ⟨rfl, t, rfl⟩) | skip)); (show K _ _); refine hK _ _ (show Ext _ _ from zq0) ?_; clear hK K; (try simp only [Act.put, List.setIfInBounds_toArray, List.set_cons_zero, List.set_cons_succ])))
            refine mix_nil ?_)
          | (
            with_reducible refine wp_region_ext (by kernel_rfl) (by kernel_rfl) ?_
            repeat (first | go_big_quiet_skip | (go_big_quiet_want; go_big_quiet_op; first | go_big_quiet_on | (apply Exists.intro; refine ⟨fun _ => ?_, ?_⟩; ((first | (go_at_call 84; first | exact quiet_call (sPlcCell_g _ _ _ _ (by assumption)) | exact quiet_call2 (sPlcCell_g _ _ _ _ (by assumption))))); (try rw [h1]); (try rw [h2]); (try rw [h3]); (try rw [h4]); (try rw [p1]); (try rw [p2]); (try rw [p3]); (try rw [p4]); (try rw [r1]); (try rw [r2]); (try rw [r3]); (try rw [r4]); (try rw [r5]); (try rw [r6]); (try rw [q3]); (try rw [q4]); (try rw [hp]); (try rw [hq]); go_big_quiet_on)))
            refine wpQuiet_nil ?_
            rintro _ ⟨tq, rfl⟩))
      refine bodyPost_ret (v := .tuple #[.agg #[.int .i64 c.cell, .slice a1 c.wk.length c1, .int .i64 c.ground, .slice a3 c.outs.length c3, .slice a4 c.next.length c4, .slice a5 c.ins.length c5], .int .i64 2]) (by simp [results, Try.results131, go_sem]) rfl ?_
      exact ⟨⟨a1, c1, a3, c3, a4, c4, a5, c5⟩, B1, B3, rfl, HX.out.of zq0, Chg.of_ext zq0 _, fun b hb => .inl hb⟩
    · have w1 : (pc == -1) = false := by simpa using v1
      by_cases v2 : pc = c.cell
      · have w2 : (pc == c.cell) = true := by simpa using v2
        have E := hid (show sStep m c y 1 = (putC c { y with at_ := y.at_ + 1 }, 1) by rw [EK.out, if_neg v1, if_pos v2])
        clear v2
        rw [E.out]
        go_enter Try.func131, Try.ntmps131
        try go_wp2_with (first
            | (go_at_call 84; refine (sPlcCell_g _ _ _ _ (by assumption)).mono ?_; rintro e w' ⟨rfl, t, rfl⟩) | (go_at_call 95; (with_reducible refine (sWlkPut_c c.wk { y with at_ := y.at_ + 1 } _ _ _ _ (HRe.out.of zq0) hl).mono ?_); rintro e w' ⟨p1, r1, D1, rfl, ⟨t, rfl⟩, ho, hb⟩; have HR := hid ho; have HD := hid hb; clear ho hb)
            | (
              with_reducible refine wp_region_mix (by kernel_rfl) (by decide +kernel) ?_
              repeat (first
                | (refine mix_pure rfl ?_; (first | go_big_quiet_skip | (go_big_quiet_want; go_big_quiet_op; go_big_quiet_on)); refine wpQuiet_nil ?_)
                | (refine mix_skip (by rfl) ?_; (try simp only [Act.put, List.setIfInBounds_toArray, List.set_cons_zero, List.set_cons_succ]))
                | (refine mix_mk rfl (by rfl) (fun K hK => ?_); (first | (go_simp; first | (go_at_call 84; refine (sPlcCell_g _ _ _ _ (by assumption)).mono ?_; rintro e w' ⟨rfl, t, rfl⟩) | (go_at_call 95; (with_reducible refine (sWlkPut_c c.wk { y with at_ := y.at_ + 1 } _ _ _ _ (HRe.out.of zq0) hl).mono ?_); rintro e w' ⟨p1, r1, D1, rfl, ⟨t, rfl⟩, ho, hb⟩; have HR := hid ho; have HD := hid hb; clear ho hb) | skip)); (show K _ _); refine hK _ _ (show Ext _ _ from zq0) ?_; clear hK K; (try simp only [Act.put, List.setIfInBounds_toArray, List.set_cons_zero, List.set_cons_succ])))
              refine mix_nil ?_)
            | (
              with_reducible refine wp_region_ext (by kernel_rfl) (by kernel_rfl) ?_
              repeat (first | go_big_quiet_skip | (go_big_quiet_want; go_big_quiet_op; first | go_big_quiet_on | (apply Exists.intro; refine ⟨fun _ => ?_, ?_⟩; ((first | (go_at_call 84; first | exact quiet_call (sPlcCell_g _ _ _ _ (by assumption)) | exact quiet_call2 (sPlcCell_g _ _ _ _ (by assumption))))); (try rw [h1]); (try rw [h2]); (try rw [h3]); (try rw [h4]); (try rw [p1]); (try rw [p2]); (try rw [p3]); (try rw [p4]); (try rw [r1]); (try rw [r2]); (try rw [r3]); (try rw [r4]); (try rw [r5]); (try rw [r6]); (try rw [q3]); (try rw [q4]); (try rw [hp]); (try rw [hq]); go_big_quiet_on)))
              refine wpQuiet_nil ?_
              rintro _ ⟨tq, rfl⟩))
        refine bodyPost_ret (v := .tuple #[.agg #[.int .i64 c.cell, .slice p1 (wlkPut c.wk { y with at_ := y.at_ + 1 }).length r1, .int .i64 (c.ground), .slice a3 c.outs.length c3, .slice a4 c.next.length c4, .slice a5 c.ins.length c5], .int .i64 1]) (by simp [results, Try.results131, go_sem]) rfl ?_
        refine ⟨⟨p1, r1, a3, c3, a4, c4, a5, c5⟩, D1, B3, rfl, ?_, Chg.of_ext zq0 _, fun b hb => ?_⟩
        · refine CX.flat (c := { c with wk := wlkPut c.wk { y with at_ := y.at_ + 1 } }) ?_ rfl rfl rfl rfl
          have Q := HR.out
          (try rw [ext_ext] at Q)
          exact HX.out.setWk (Chg.of_ext zq0 _) (Q.fin (fun b hb => Nat.le_trans zq2 (HD.out b hb)) zq0 (by simp)) (fun b hb => .inr (Nat.le_trans zq2 (HD.out b hb)))
        · rcases List.mem_append.1 hb with hb | hb
          · exact .inr (Nat.le_trans zq2 (HD.out b hb))
          · exact .inl (by simp [hb])
      · have w2 : (pc == c.cell) = false := by simpa using v2
        by_cases u2 : nx = 5000
        · have E := hid (show sStep m c y 1 = (c, 2) by rw [EK.out, if_neg v1, if_neg v2, if_pos u2])
          rw [E.out]
          go_enter Try.func131, Try.ntmps131
          go_wp2_with (first | (go_at_call 84; refine (sPlcCell_g _ _ _ _ (by assumption)).mono ?_; rintro e w' ⟨rfl, t, rfl⟩))
          refine calls_gen fun Y hY => ?_
          have EY : Ext w Y := by rw [hY]; ((try simp only [ext_drew]); (try simp only [ext_ext]); repeat (first | exact Ext.refl _ | with_reducible apply Ext.add | with_reducible apply Ext.dr | apply Ext.alloc | apply Ext.ext | apply Ext.drew | refine Ext.trans ?_ (by assumption)))
          have hC : Y.heap[w.heap.size + 1]? = some (.cells #[.int .i64 c.cell, .slice a1 c.wk.length c1, .int .i64 c.ground, .slice a3 c.outs.length c3, .slice a4 c.next.length c4, .slice a5 c.ins.length c5] 37 (0, 0)) := by rw [hY]; exact blk_ext (blk_alloc (blk_alloc (alloc_last (by simp))))
          have hYb : Y.heap[w.heap.size + 1 + 1]? = some (.cells #[.int .i64 y.id, .int .i64 (y.at_ + 1), .int .i64 y.coins, .int .i64 y.seq, .int .i64 1] 43 (0, 0)) := by rw [hY]; exact blk_ext (blk_alloc (alloc_last (by simp)))
          have hR6 : Y.heap[w.heap.size + 1 + 1 + 1]? = some (.cells #[.int .i64 0, .slice none 0 0, .int .i64 0, .slice none 0 0, .slice none 0 0, .slice none 0 0] 37 (0, 0)) := by rw [hY]; exact blk_ext (alloc_last (by simp))
          obtain ⟨R6, hR6e⟩ : ∃ R, w.heap.size + 1 + 1 + 1 = R := ⟨_, rfl⟩
          obtain ⟨YB, hYe⟩ : ∃ P, w.heap.size + 1 + 1 = P := ⟨_, rfl⟩
          obtain ⟨C, hCe⟩ : ∃ T, w.heap.size + 1 = T := ⟨_, rfl⟩
          rw [hR6e] at hR6 ⊢
          rw [hYe] at hYb ⊢
          rw [hCe] at hC ⊢
          have HW := hid (show w.heap.size < C ∧ w.heap.size < YB ∧ w.heap.size < R6 ∧ C ≠ R6 ∧ YB ≠ R6 ∧ C ≠ YB from ⟨by omega, by omega, by omega, by omega, by omega, by omega⟩)
          have HEY := hid EY
          clear hY hR6e hYe hCe
          have hBw : ∀ b ∈ B1 ++ (B3 ++ (B4 ++ B5)), b < w.heap.size := HX.out.lt
          have hB3w : ∀ b ∈ B3 ++ B4, b < w.heap.size := fun b hb => hBw b (by simp only [List.mem_append] at hb ⊢; rcases hb with hb | hb <;> simp [hb])
          refine (l5Post_c c ⟨a1, c1, a3, c3, a4, c4, a5, c5⟩ 1 ⟨0, 1, { y with at_ := y.at_ + 1, last := 1 }, 0⟩ nx xs B1 B3 B4 B5 Y (HX.out.of EY) HXS.out HNX.out nx0 nx1 (by omega)).mono ?_
          rintro e Y2 ⟨B3', rfl, hcx, hch, hb3⟩
          obtain ⟨w1, w2, w3, nC6, nY6, nCY⟩ := HW.out
          have hC2 := (hch.block C (lt_blk hC) (fun hb => by have := hB3w _ hb; omega)).trans hC
          have hY2 := (hch.block YB (lt_blk hYb) (fun hb => by have := hB3w _ hb; omega)).trans hYb
          have h62 := (hch.block R6 (lt_blk hR6) (fun hb => by have := hB3w _ hb; omega)).trans hR6
          have u3 : (nx == 5000) = true := by simpa using u2
          rw [u3, cond_true] at hcx
          rw [u3]
          have uC0 := (cell_blk hC2 0).trans (show _ = some (Value.int .i64 c.cell) from rfl)
          have uC1 := (cell_blk hC2 1).trans (show _ = some (Value.slice a1 c.wk.length c1) from rfl)
          have uC2 := (cell_blk hC2 2).trans (show _ = some (Value.int .i64 c.ground) from rfl)
          have uC3 := (cell_blk hC2 3).trans (show _ = some (Value.slice a3 c.outs.length c3) from rfl)
          have uC4 := (cell_blk hC2 4).trans (show _ = some (Value.slice a4 c.next.length c4) from rfl)
          have uC5 := (cell_blk hC2 5).trans (show _ = some (Value.slice a5 c.ins.length c5) from rfl)
          have uY0 := (cell_blk hY2 0).trans (show _ = some (Value.int .i64 y.id) from rfl)
          have uY1 := (cell_blk hY2 1).trans (show _ = some (Value.int .i64 (y.at_ + 1)) from rfl)
          have uY2 := (cell_blk hY2 2).trans (show _ = some (Value.int .i64 y.coins) from rfl)
          have uY3 := (cell_blk hY2 3).trans (show _ = some (Value.int .i64 y.seq) from rfl)
          have uY4 := (cell_blk hY2 4).trans (show _ = some (Value.int .i64 1) from rfl)
          have v0 := (cell_blk h62 0).trans (show _ = some (Value.int .i64 0) from rfl)
          have vz0 := frozen_blk h62 0
          have v1 := (cell_blk h62 1).trans (show _ = some (Value.slice none 0 0) from rfl)
          have vz1 := frozen_blk h62 1
          have v2 := (cell_blk h62 2).trans (show _ = some (Value.int .i64 0) from rfl)
          have vz2 := frozen_blk h62 2
          have v3 := (cell_blk h62 3).trans (show _ = some (Value.slice none 0 0) from rfl)
          have vz3 := frozen_blk h62 3
          have v4 := (cell_blk h62 4).trans (show _ = some (Value.slice none 0 0) from rfl)
          have vz4 := frozen_blk h62 4
          have v5 := (cell_blk h62 5).trans (show _ = some (Value.slice none 0 0) from rfl)
          have vz5 := frozen_blk h62 5
          have lC2 := lt_blk hC2
          have lY2 := lt_blk hY2
          have l62 := lt_blk h62
          have HCX := hid hcx
          have HCH := hid ((Chg.of_ext HEY.out (B3 ++ B4)).trans hch)
          have HB3' := hid (show ∀ b ∈ B3', b ∈ B3 ∨ Y.heap.size ≤ b from hb3)
          have lY6 := lt_blk hR6
          have n6C := Ne.symm nC6
          have n6Y := Ne.symm nY6
          clear hC2 hY2 h62 hcx hch hb3 hC hYb hR6 EY
          have HLT := hid (show ∀ b ∈ B1 ++ (B3' ++ (B4 ++ B5)), b ≠ R6 from fun b hb e => by
            have h9 : b ∈ B1 ++ (B3 ++ (B4 ++ B5)) ∨ Y.heap.size ≤ b := by
              simp only [List.mem_append] at hb ⊢
              rcases hb with h9 | h9 | h9
              · exact .inl (.inl h9)
              · exact (HB3'.out b h9).imp (fun h => .inr (.inl h)) id
              · exact .inl (.inr (.inr h9))
            rcases h9 with h9 | h9
            · have := hBw b h9; omega
            · omega)
          clear hBw hB3w
          try go_wp2_with (first
              | fail
              | (
                with_reducible refine wp_region_mix (by kernel_rfl) (by decide +kernel) ?_
                repeat (first
                  | (refine mix_pure rfl ?_; (first | go_big_quiet_skip | (go_big_quiet_want; go_big_quiet_op; go_big_quiet_on)); refine wpQuiet_nil ?_)
                  | (refine mix_skip (by rfl) ?_; (try simp only [Act.put, List.setIfInBounds_toArray, List.set_cons_zero, List.set_cons_succ]))
                  | (refine mix_mk rfl (by rfl) (fun K hK => ?_); (first | (go_simp; first | skip)); (show K _ _); refine hK _ _ (show Ext _ _ from zq0) ?_; clear hK K; (try simp only [Act.put, List.setIfInBounds_toArray, List.set_cons_zero, List.set_cons_succ])))
                refine mix_nil ?_)
              | (
                with_reducible refine wp_region_ext (by kernel_rfl) (by kernel_rfl) ?_
                repeat (first | go_big_quiet_skip | (go_big_quiet_want; go_big_quiet_op; first | go_big_quiet_on | (apply Exists.intro; refine ⟨fun _ => ?_, ?_⟩; (fail); (try rw [h1]); (try rw [h2]); (try rw [h3]); (try rw [h4]); (try rw [p1]); (try rw [p2]); (try rw [p3]); (try rw [p4]); (try rw [r1]); (try rw [r2]); (try rw [r3]); (try rw [r4]); (try rw [r5]); (try rw [r6]); (try rw [q3]); (try rw [q4]); (try rw [hp]); (try rw [hq]); go_big_quiet_on)))
                refine wpQuiet_nil ?_
                rintro _ ⟨tq, rfl⟩))
          refine bodyPost_ret (v := .tuple #[.agg #[.int .i64 c.cell, .slice a1 c.wk.length c1, .int .i64 c.ground, .slice a3 c.outs.length c3, .slice a4 c.next.length c4, .slice a5 c.ins.length c5], .int .i64 2]) (by simp [results, Try.results131, go_sem, v0, v1, v2, v3, v4, v5, l62, n6C, nC6, n6Y, nY6]) rfl ?_
          refine ⟨⟨a1, c1, a3, c3, a4, c4, a5, c5⟩, B1, B3', rfl, (HCX.out.of zq0).chg (B' := [R6]) zq1 (fun b hb => by simpa using HLT.out b hb), Chg.up HCH.out (B' := [R6]) zq1 (by simp; omega), fun b hb => ?_⟩
          rcases List.mem_append.1 hb with h9 | h9
          · exact .inl (List.mem_append_left _ h9)
          · exact (HB3'.out b h9).imp (fun h => List.mem_append_right _ h) (fun h => Nat.le_trans HEY.out.size h)
        · have E := hid (show sStep m c y 1 = ({ postC c 1 ⟨0, 1, { y with at_ := y.at_ + 1, last := 1 }, 0⟩ with wk := wlkOut c.wk y.id }, 1) by rw [EK.out, if_neg v1, if_neg v2, if_neg u2])
          rw [E.out]
          go_enter Try.func131, Try.ntmps131
          go_wp2_with (first | (go_at_call 84; refine (sPlcCell_g _ _ _ _ (by assumption)).mono ?_; rintro e w' ⟨rfl, t, rfl⟩))
          refine calls_gen fun Y hY => ?_
          have EY : Ext w Y := by rw [hY]; ((try simp only [ext_drew]); (try simp only [ext_ext]); repeat (first | exact Ext.refl _ | with_reducible apply Ext.add | with_reducible apply Ext.dr | apply Ext.alloc | apply Ext.ext | apply Ext.drew | refine Ext.trans ?_ (by assumption)))
          have hC : Y.heap[w.heap.size + 1]? = some (.cells #[.int .i64 c.cell, .slice a1 c.wk.length c1, .int .i64 c.ground, .slice a3 c.outs.length c3, .slice a4 c.next.length c4, .slice a5 c.ins.length c5] 37 (0, 0)) := by rw [hY]; exact blk_ext (blk_alloc (blk_alloc (alloc_last (by simp))))
          have hYb : Y.heap[w.heap.size + 1 + 1]? = some (.cells #[.int .i64 y.id, .int .i64 (y.at_ + 1), .int .i64 y.coins, .int .i64 y.seq, .int .i64 1] 43 (0, 0)) := by rw [hY]; exact blk_ext (blk_alloc (alloc_last (by simp)))
          have hR6 : Y.heap[w.heap.size + 1 + 1 + 1]? = some (.cells #[.int .i64 0, .slice none 0 0, .int .i64 0, .slice none 0 0, .slice none 0 0, .slice none 0 0] 37 (0, 0)) := by rw [hY]; exact blk_ext (alloc_last (by simp))
          obtain ⟨R6, hR6e⟩ : ∃ R, w.heap.size + 1 + 1 + 1 = R := ⟨_, rfl⟩
          obtain ⟨YB, hYe⟩ : ∃ P, w.heap.size + 1 + 1 = P := ⟨_, rfl⟩
          obtain ⟨C, hCe⟩ : ∃ T, w.heap.size + 1 = T := ⟨_, rfl⟩
          rw [hR6e] at hR6 ⊢
          rw [hYe] at hYb ⊢
          rw [hCe] at hC ⊢
          have HW := hid (show w.heap.size < C ∧ w.heap.size < YB ∧ w.heap.size < R6 ∧ C ≠ R6 ∧ YB ≠ R6 ∧ C ≠ YB from ⟨by omega, by omega, by omega, by omega, by omega, by omega⟩)
          have HEY := hid EY
          clear hY hR6e hYe hCe
          have hBw : ∀ b ∈ B1 ++ (B3 ++ (B4 ++ B5)), b < w.heap.size := HX.out.lt
          have hB3w : ∀ b ∈ B3 ++ B4, b < w.heap.size := fun b hb => hBw b (by simp only [List.mem_append] at hb ⊢; rcases hb with hb | hb <;> simp [hb])
          refine (l5Post_c c ⟨a1, c1, a3, c3, a4, c4, a5, c5⟩ 1 ⟨0, 1, { y with at_ := y.at_ + 1, last := 1 }, 0⟩ nx xs B1 B3 B4 B5 Y (HX.out.of EY) HXS.out HNX.out nx0 nx1 (by omega)).mono ?_
          rintro e Y2 ⟨B3', rfl, hcx, hch, hb3⟩
          obtain ⟨w1, w2, w3, nC6, nY6, nCY⟩ := HW.out
          have hC2 := (hch.block C (lt_blk hC) (fun hb => by have := hB3w _ hb; omega)).trans hC
          have hY2 := (hch.block YB (lt_blk hYb) (fun hb => by have := hB3w _ hb; omega)).trans hYb
          have h62 := (hch.block R6 (lt_blk hR6) (fun hb => by have := hB3w _ hb; omega)).trans hR6
          have u3 : (nx == 5000) = false := by simpa using u2
          rw [u3, cond_false] at hcx
          rw [u3]
          have HReP := hid (show Re Y2 (.sl sWlk) [.slice a1 c.wk.length c1] (.l (c.wk.map Wlk.dat)) from hcx.re.r1)
          have uC0 := (cell_blk hC2 0).trans (show _ = some (Value.int .i64 c.cell) from rfl)
          have uC1 := (cell_blk hC2 1).trans (show _ = some (Value.slice a1 c.wk.length c1) from rfl)
          have uC2 := (cell_blk hC2 2).trans (show _ = some (Value.int .i64 c.ground) from rfl)
          have uC3 := (cell_blk hC2 3).trans (show _ = some (Value.slice a3 c.outs.length c3) from rfl)
          have uC4 := (cell_blk hC2 4).trans (show _ = some (Value.slice a4 c.next.length c4) from rfl)
          have uC5 := (cell_blk hC2 5).trans (show _ = some (Value.slice a5 c.ins.length c5) from rfl)
          have uY0 := (cell_blk hY2 0).trans (show _ = some (Value.int .i64 y.id) from rfl)
          have uY1 := (cell_blk hY2 1).trans (show _ = some (Value.int .i64 (y.at_ + 1)) from rfl)
          have uY2 := (cell_blk hY2 2).trans (show _ = some (Value.int .i64 y.coins) from rfl)
          have uY3 := (cell_blk hY2 3).trans (show _ = some (Value.int .i64 y.seq) from rfl)
          have uY4 := (cell_blk hY2 4).trans (show _ = some (Value.int .i64 1) from rfl)
          have v0 := (cell_blk h62 0).trans (show _ = some (Value.int .i64 0) from rfl)
          have vz0 := frozen_blk h62 0
          have v1 := (cell_blk h62 1).trans (show _ = some (Value.slice none 0 0) from rfl)
          have vz1 := frozen_blk h62 1
          have v2 := (cell_blk h62 2).trans (show _ = some (Value.int .i64 0) from rfl)
          have vz2 := frozen_blk h62 2
          have v3 := (cell_blk h62 3).trans (show _ = some (Value.slice none 0 0) from rfl)
          have vz3 := frozen_blk h62 3
          have v4 := (cell_blk h62 4).trans (show _ = some (Value.slice none 0 0) from rfl)
          have vz4 := frozen_blk h62 4
          have v5 := (cell_blk h62 5).trans (show _ = some (Value.slice none 0 0) from rfl)
          have vz5 := frozen_blk h62 5
          have lC2 := lt_blk hC2
          have lY2 := lt_blk hY2
          have l62 := lt_blk h62
          have HCX := hid hcx
          have HCH := hid ((Chg.of_ext HEY.out (B3 ++ B4)).trans hch)
          have HB3' := hid (show ∀ b ∈ B3', b ∈ B3 ∨ Y.heap.size ≤ b from hb3)
          have lY6 := lt_blk hR6
          have n6C := Ne.symm nC6
          have n6Y := Ne.symm nY6
          clear hC2 hY2 h62 hcx hch hb3 hC hYb hR6 EY
          have HLT := hid (show ∀ b ∈ B1 ++ (B3' ++ (B4 ++ B5)), b ≠ R6 from fun b hb e => by
            have h9 : b ∈ B1 ++ (B3 ++ (B4 ++ B5)) ∨ Y.heap.size ≤ b := by
              simp only [List.mem_append] at hb ⊢
              rcases hb with h9 | h9 | h9
              · exact .inl (.inl h9)
              · exact (HB3'.out b h9).imp (fun h => .inr (.inl h)) id
              · exact .inl (.inr (.inr h9))
            rcases h9 with h9 | h9
            · have := hBw b h9; omega
            · omega)
          have HB9 := hid (show ∀ b ∈ B3' ++ (B4 ++ B5), b < Y2.heap.size from fun b hb => HCX.out.lt b (List.mem_append_right _ hb))
          clear hBw hB3w
          try go_wp2_with (first
              | (go_at_call 126; (with_reducible refine (sWlkOut_x c.wk _ _ _ y.id _ (HReP.out.of zq0) hl).mono ?_); rintro e w' ⟨p1, r1, D1, rfl, ⟨t9, rfl⟩, ho, hb⟩; have HR := hid ho; have HD := hid hb; clear ho hb)
              | (
                with_reducible refine wp_region_mix (by kernel_rfl) (by decide +kernel) ?_
                repeat (first
                  | (refine mix_pure rfl ?_; (first | go_big_quiet_skip | (go_big_quiet_want; go_big_quiet_op; go_big_quiet_on)); refine wpQuiet_nil ?_)
                  | (refine mix_skip (by rfl) ?_; (try simp only [Act.put, List.setIfInBounds_toArray, List.set_cons_zero, List.set_cons_succ]))
                  | (refine mix_mk rfl (by rfl) (fun K hK => ?_); (first | (go_simp; first | (go_at_call 126; (with_reducible refine (sWlkOut_x c.wk _ _ _ y.id _ (HReP.out.of zq0) hl).mono ?_); rintro e w' ⟨p1, r1, D1, rfl, ⟨t9, rfl⟩, ho, hb⟩; have HR := hid ho; have HD := hid hb; clear ho hb) | skip)); (show K _ _); refine hK _ _ (show Ext _ _ from zq0) ?_; clear hK K; (try simp only [Act.put, List.setIfInBounds_toArray, List.set_cons_zero, List.set_cons_succ])))
                refine mix_nil ?_)
              | (
                with_reducible refine wp_region_ext (by kernel_rfl) (by kernel_rfl) ?_
                repeat (first | go_big_quiet_skip | (go_big_quiet_want; go_big_quiet_op; first | go_big_quiet_on | (apply Exists.intro; refine ⟨fun _ => ?_, ?_⟩; (fail); (try rw [h1]); (try rw [h2]); (try rw [h3]); (try rw [h4]); (try rw [p1]); (try rw [p2]); (try rw [p3]); (try rw [p4]); (try rw [r1]); (try rw [r2]); (try rw [r3]); (try rw [r4]); (try rw [r5]); (try rw [r6]); (try rw [q3]); (try rw [q4]); (try rw [hp]); (try rw [hq]); go_big_quiet_on)))
                refine wpQuiet_nil ?_
                rintro _ ⟨tq, rfl⟩))
          refine bodyPost_ret (v := .tuple #[.agg #[.int .i64 c.cell, .slice p1 (wlkOut c.wk y.id).length r1, .int .i64 c.ground, .slice a3 c.outs.length c3, .slice a4 c.next.length c4, .slice a5 c.ins.length c5], .int .i64 1]) (by simp [results, Try.results131, go_sem, v0, v1, v2, v3, v4, v5, l62, n6C, nC6, n6Y, nY6]) rfl ?_
          refine ⟨⟨p1, r1, a3, c3, a4, c4, a5, c5⟩, D1, B3', by simp only [postC, List.length_set], ?_, Chg.up HCH.out (B' := [R6]) zq1 (by simp; omega), fun b hb => ?_⟩
          · refine CX.putWk (HCX.out.chg (B' := [R6]) zq1 (fun b hb => by simpa using HLT.out b hb)) ?_ (fun b hb hm => ?_)
            · have Q := HR.out
              (try rw [ext_ext] at Q)
              exact Q.fin (fun b hb => Nat.le_trans zq2 (HD.out b hb)) zq0 (by simp)
            · have h1 := HD.out b hb
              have h2 := HB9.out b hm
              simp [go_sem] at h1
              omega
          · rcases List.mem_append.1 hb with h9 | h9
            · have h1 := HD.out b h9
              have h2 := HCH.out.size
              simp [go_sem] at h1
              exact .inr (by omega)
            · exact (HB3'.out b h9).imp (fun h => List.mem_append_right _ h) (fun h => Nat.le_trans HEY.out.size h)
end Go.Proofs.Ytablgohncilmfaa

namespace Go.Proofs.Ytablgohncilmfaa
open Go.RowKit
set_option linter.unusedSimpArgs false
set_option linter.unusedVariables false

set_option maxRecDepth 100000 in
set_option maxHeartbeats 4000000 in
theorem l5Give_c (c : Cll) (h : CllH) (y : Wlk) (to n : Int) (B1 B3 B4 B5 : List Nat) (w : World) (hx : CX w c h B1 B3 B4 B5) (hl : c.wk.length ≤ 1048000) (hb : ∀ x ∈ c.wk, 0 ≤ x.coins ∧ x.coins ≤ 99) (hy : 0 ≤ y.coins ∧ y.coins ≤ 99) (hn : 0 ≤ n ∧ n ≤ 9) :
    Calls Try.prog 132 #[.agg #[.int .i64 c.cell, .slice h.a1 c.wk.length h.c1, .int .i64 c.ground, .slice h.a3 c.outs.length h.c3, .slice h.a4 c.next.length h.c4, .slice h.a5 c.ins.length h.c5], .agg #[.int .i64 y.id, .int .i64 y.at_, .int .i64 y.coins, .int .i64 y.seq, .int .i64 y.last], .int .i64 to, .int .i64 n] w (SR w B1 B3 B4 B5 (sGive c y to n).1 (.int .i64 (sGive c y to n).2)) := by
  obtain ⟨a1, c1, a3, c3, a4, c4, a5, c5⟩ := h
  obtain ⟨y0, y1⟩ := hy
  obtain ⟨n0, n1⟩ := hn
  have HX := hid hx
  have HRe := hid hx.re.r1
  clear hx
  obtain ⟨z, hz⟩ : ∃ z, wlkGet c.wk to = z := ⟨_, rfl⟩
  have HZ := hid hz
  have hl6 : c.wk.length ≤ 1048576 := by omega
  rcases (show wlkHas c.wk to = false ∨ wlkHas c.wk to = true by cases wlkHas c.wk to <;> simp) with hh | hh
  · have HH := hid hh
    have E := hid (show sGive c y to n = (c, 4) by simp only [sGive, hh, if_true])
    clear hz hh
    rw [E.out]
    go_enter Try.func132, Try.ntmps132
    try go_wp2_with (first
        | (go_at_call 37; (with_reducible refine (sWlkFind_c c.wk _ _ _ to _ (HRe.out.of zq0) hl6).mono ?_); rw [HZ.out, HH.out]; rintro e w' ⟨rfl, t, rfl⟩)
        | (
          with_reducible refine wp_region_mix (by kernel_rfl) (by decide +kernel) ?_
          repeat (first
            | (refine mix_pure rfl ?_; (first | go_big_quiet_skip | (go_big_quiet_want; go_big_quiet_op; go_big_quiet_on)); refine wpQuiet_nil ?_)
            | (refine mix_skip (by rfl) ?_; (try simp only [Act.put, List.setIfInBounds_toArray, List.set_cons_zero, List.set_cons_succ]))
            | (refine mix_mk rfl (by rfl) (fun K hK => ?_); (first | (go_simp; first | (go_at_call 37; (with_reducible refine (sWlkFind_c c.wk _ _ _ to _ (HRe.out.of zq0) hl6).mono ?_); rw [HZ.out, HH.out]; rintro e w' ⟨rfl, t, rfl⟩) | skip)); (show K _ _); refine hK _ _ (show Ext _ _ from zq0) ?_; clear hK K; (try simp only [Act.put, List.setIfInBounds_toArray, List.set_cons_zero, List.set_cons_succ])))
          refine mix_nil ?_)
        | (
          with_reducible refine wp_region_ext (by kernel_rfl) (by kernel_rfl) ?_
          repeat (first | go_big_quiet_skip | (go_big_quiet_want; go_big_quiet_op; first | go_big_quiet_on | (apply Exists.intro; refine ⟨fun _ => ?_, ?_⟩; (fail); (try rw [h1]); (try rw [h2]); (try rw [h3]); (try rw [h4]); (try rw [p1]); (try rw [p2]); (try rw [p3]); (try rw [p4]); (try rw [r1]); (try rw [r2]); (try rw [r3]); (try rw [r4]); (try rw [r5]); (try rw [r6]); (try rw [q3]); (try rw [q4]); (try rw [hp]); (try rw [hq]); go_big_quiet_on)))
          refine wpQuiet_nil ?_
          rintro _ ⟨tq, rfl⟩))
    refine bodyPost_ret (v := .tuple #[.agg #[.int .i64 c.cell, .slice a1 c.wk.length c1, .int .i64 c.ground, .slice a3 c.outs.length c3, .slice a4 c.next.length c4, .slice a5 c.ins.length c5], .int .i64 4]) (by simp [results, Try.results132, go_sem]) rfl ?_
    exact ⟨⟨a1, c1, a3, c3, a4, c4, a5, c5⟩, B1, B3, rfl, HX.out.of zq0, Chg.of_ext zq0 _, fun b hb => .inl hb⟩
  · have HH := hid hh
    have hzb : 0 ≤ z.coins ∧ z.coins ≤ 99 := by
      rcases has_or c.wk to with hno | ⟨j, u, hj, hjid⟩
      · rw [(get_no hno).2.1] at hh; cases hh
      · have hf : z ∈ c.wk := by
          rw [← hz, wlkGet]
          cases hfd : c.wk.find? (idIs to) with
          | none => rw [wlkHas, hfd] at hh; cases hh
          | some v => exact List.mem_of_find?_eq_some hfd
        exact hb z hf
    obtain ⟨z0, z1⟩ := hzb
    have EK := hid (show sGive c y to n = if y.coins < n then (c, 3) else if z.coins + n > 99 then (c, 5) else (putC (putC c { y with coins := y.coins - n }) { z with coins := z.coins + n }, 1) by simp only [sGive, hh, hz, Bool.true_eq_false, if_false])
    clear hz hh hb
    by_cases u1 : y.coins < n
    · have E := hid (show sGive c y to n = (c, 3) by rw [EK.out, if_pos u1])
      rw [E.out]
      go_enter Try.func132, Try.ntmps132
      try go_wp2_with (first
          | (go_at_call 37; (with_reducible refine (sWlkFind_c c.wk _ _ _ to _ (HRe.out.of zq0) hl6).mono ?_); rw [HZ.out, HH.out]; rintro e w' ⟨rfl, t, rfl⟩)
          | (
            with_reducible refine wp_region_mix (by kernel_rfl) (by decide +kernel) ?_
            repeat (first
              | (refine mix_pure rfl ?_; (first | go_big_quiet_skip | (go_big_quiet_want; go_big_quiet_op; go_big_quiet_on)); refine wpQuiet_nil ?_)
              | (refine mix_skip (by rfl) ?_; (try simp only [Act.put, List.setIfInBounds_toArray, List.set_cons_zero, List.set_cons_succ]))
              | (refine mix_mk rfl (by rfl) (fun K hK => ?_); (first | (go_simp; first | (go_at_call 37; (with_reducible refine (sWlkFind_c c.wk _ _ _ to _ (HRe.out.of zq0) hl6).mono ?_); rw [HZ.out, HH.out]; rintro e w' ⟨rfl, t, rfl⟩) | skip)); (show K _ _); refine hK _ _ (show Ext _ _ from zq0) ?_; clear hK K; (try simp only [Act.put, List.setIfInBounds_toArray, List.set_cons_zero, List.set_cons_succ])))
            refine mix_nil ?_)
          | (
            with_reducible refine wp_region_ext (by kernel_rfl) (by kernel_rfl) ?_
            repeat (first | go_big_quiet_skip | (go_big_quiet_want; go_big_quiet_op; first | go_big_quiet_on | (apply Exists.intro; refine ⟨fun _ => ?_, ?_⟩; (fail); (try rw [h1]); (try rw [h2]); (try rw [h3]); (try rw [h4]); (try rw [p1]); (try rw [p2]); (try rw [p3]); (try rw [p4]); (try rw [r1]); (try rw [r2]); (try rw [r3]); (try rw [r4]); (try rw [r5]); (try rw [r6]); (try rw [q3]); (try rw [q4]); (try rw [hp]); (try rw [hq]); go_big_quiet_on)))
            refine wpQuiet_nil ?_
            rintro _ ⟨tq, rfl⟩))
      refine bodyPost_ret (v := .tuple #[.agg #[.int .i64 c.cell, .slice a1 c.wk.length c1, .int .i64 c.ground, .slice a3 c.outs.length c3, .slice a4 c.next.length c4, .slice a5 c.ins.length c5], .int .i64 3]) (by simp [results, Try.results132, go_sem]) rfl ?_
      exact ⟨⟨a1, c1, a3, c3, a4, c4, a5, c5⟩, B1, B3, rfl, HX.out.of zq0, Chg.of_ext zq0 _, fun b hb => .inl hb⟩
    · by_cases u2 : z.coins + n > 99
      · have E := hid (show sGive c y to n = (c, 5) by rw [EK.out, if_neg u1, if_pos u2])
        rw [E.out]
        go_enter Try.func132, Try.ntmps132
        try go_wp2_with (first
            | (go_at_call 37; (with_reducible refine (sWlkFind_c c.wk _ _ _ to _ (HRe.out.of zq0) hl6).mono ?_); rw [HZ.out, HH.out]; rintro e w' ⟨rfl, t, rfl⟩)
            | (
              with_reducible refine wp_region_mix (by kernel_rfl) (by decide +kernel) ?_
              repeat (first
                | (refine mix_pure rfl ?_; (first | go_big_quiet_skip | (go_big_quiet_want; go_big_quiet_op; go_big_quiet_on)); refine wpQuiet_nil ?_)
                | (refine mix_skip (by rfl) ?_; (try simp only [Act.put, List.setIfInBounds_toArray, List.set_cons_zero, List.set_cons_succ]))
                | (refine mix_mk rfl (by rfl) (fun K hK => ?_); (first | (go_simp; first | (go_at_call 37; (with_reducible refine (sWlkFind_c c.wk _ _ _ to _ (HRe.out.of zq0) hl6).mono ?_); rw [HZ.out, HH.out]; rintro e w' ⟨rfl, t, rfl⟩) | skip)); (show K _ _); refine hK _ _ (show Ext _ _ from zq0) ?_; clear hK K; (try simp only [Act.put, List.setIfInBounds_toArray, List.set_cons_zero, List.set_cons_succ])))
              refine mix_nil ?_)
            | (
              with_reducible refine wp_region_ext (by kernel_rfl) (by kernel_rfl) ?_
              repeat (first | go_big_quiet_skip | (go_big_quiet_want; go_big_quiet_op; first | go_big_quiet_on | (apply Exists.intro; refine ⟨fun _ => ?_, ?_⟩; (fail); (try rw [h1]); (try rw [h2]); (try rw [h3]); (try rw [h4]); (try rw [p1]); (try rw [p2]); (try rw [p3]); (try rw [p4]); (try rw [r1]); (try rw [r2]); (try rw [r3]); (try rw [r4]); (try rw [r5]); (try rw [r6]); (try rw [q3]); (try rw [q4]); (try rw [hp]); (try rw [hq]); go_big_quiet_on)))
              refine wpQuiet_nil ?_
              rintro _ ⟨tq, rfl⟩))
        refine bodyPost_ret (v := .tuple #[.agg #[.int .i64 c.cell, .slice a1 c.wk.length c1, .int .i64 c.ground, .slice a3 c.outs.length c3, .slice a4 c.next.length c4, .slice a5 c.ins.length c5], .int .i64 5]) (by simp [results, Try.results132, go_sem]) rfl ?_
        exact ⟨⟨a1, c1, a3, c3, a4, c4, a5, c5⟩, B1, B3, rfl, HX.out.of zq0, Chg.of_ext zq0 _, fun b hb => .inl hb⟩
      · have E := hid (show sGive c y to n = (putC (putC c { y with coins := y.coins - n }) { z with coins := z.coins + n }, 1) by rw [EK.out, if_neg u1, if_neg u2])
        rw [E.out]
        obtain ⟨Y, hY⟩ : ∃ Y : Wlk, Y = { y with coins := y.coins - n } := ⟨_, rfl⟩
        obtain ⟨Z, hZ⟩ : ∃ Z : Wlk, Z = { z with coins := z.coins + n } := ⟨_, rfl⟩
        have HLP := hid (wlkPut_len c.wk Y)
        go_enter Try.func132, Try.ntmps132
        go_wp2_with (first | (go_at_call 37; (with_reducible refine (sWlkFind_c c.wk _ _ _ to _ (HRe.out.of zq0) hl6).mono ?_); rw [HZ.out, HH.out]; rintro e w' ⟨rfl, t, rfl⟩))
        refine wp_gen fun V hV => ?_
        have EV : Ext w V := by rw [hV]; ((try simp only [ext_drew]); (try simp only [ext_ext]); repeat (first | exact Ext.refl _ | with_reducible apply Ext.add | with_reducible apply Ext.dr | apply Ext.alloc | apply Ext.ext | apply Ext.drew | refine Ext.trans ?_ (by assumption)))
        have hC : V.heap[w.heap.size]? = some (.cells #[.int .i64 c.cell, .slice a1 c.wk.length c1, .int .i64 c.ground, .slice a3 c.outs.length c3, .slice a4 c.next.length c4, .slice a5 c.ins.length c5] 37 (0, 0)) := by rw [hV]; exact blk_alloc (blk_ext (blk_alloc (blk_alloc (alloc_last rfl))))
        have hYb : V.heap[w.heap.size + 1]? = some (.cells #[.int .i64 Y.id, .int .i64 Y.at_, .int .i64 Y.coins, .int .i64 Y.seq, .int .i64 Y.last] 43 (0, 0)) := by rw [hV, hY]; exact blk_alloc (blk_ext (blk_alloc (alloc_last (by simp))))
        have hR6 : V.heap[w.heap.size + 1 + 1]? = some (.cells #[.int .i64 0, .slice none 0 0, .int .i64 0, .slice none 0 0, .slice none 0 0, .slice none 0 0] 37 (0, 0)) := by rw [hV]; exact blk_alloc (blk_ext (alloc_last (by simp)))
        have hZb : V.heap[w.heap.size + 1 + 1 + 1 + t.bs.size]? = some (.cells #[.int .i64 Z.id, .int .i64 Z.at_, .int .i64 Z.coins, .int .i64 Z.seq, .int .i64 Z.last] 43 (0, 0)) := by rw [hV, hZ]; exact alloc_last (by simp [go_sem])
        obtain ⟨ZB, hZe⟩ : ∃ R, w.heap.size + 1 + 1 + 1 + t.bs.size = R := ⟨_, rfl⟩
        obtain ⟨R6, hR6e⟩ : ∃ R, w.heap.size + 1 + 1 = R := ⟨_, rfl⟩
        obtain ⟨YB, hYe⟩ : ∃ P, w.heap.size + 1 = P := ⟨_, rfl⟩
        obtain ⟨C, hCe⟩ : ∃ T, w.heap.size = T := ⟨_, rfl⟩
        rw [hZe] at hZb ⊢
        rw [hR6e] at hR6 ⊢
        rw [hYe] at hYb ⊢
        rw [hCe] at hC ⊢
        have lC := lt_blk hC
        have lY := lt_blk hYb
        have lZ := lt_blk hZb
        have l6 := lt_blk hR6
        have nCY : C ≠ YB := by omega
        have nC6 : C ≠ R6 := by omega
        have n6C : R6 ≠ C := by omega
        have nYC : YB ≠ C := by omega
        have nZC : ZB ≠ C := by omega
        obtain ⟨R, hR⟩ : ∃ R, V.heap.size + 1 = R := ⟨_, rfl⟩
        have hCR : C ≠ R := by omega
        have hYR : YB ≠ R := by omega
        have hZR : ZB ≠ R := by omega
        have h6R : R6 ≠ R := by omega
        have cC0 := (cell_blk hC 0).trans (show _ = some (Value.int .i64 c.cell) from rfl)
        have cC1 := (cell_blk hC 1).trans (show _ = some (Value.slice a1 c.wk.length c1) from rfl)
        have cC2 := (cell_blk hC 2).trans (show _ = some (Value.int .i64 c.ground) from rfl)
        have cC3 := (cell_blk hC 3).trans (show _ = some (Value.slice a3 c.outs.length c3) from rfl)
        have cC4 := (cell_blk hC 4).trans (show _ = some (Value.slice a4 c.next.length c4) from rfl)
        have cC5 := (cell_blk hC 5).trans (show _ = some (Value.slice a5 c.ins.length c5) from rfl)
        have zC1 := frozen_blk hC 1
        have cY0 := (cell_blk hYb 0).trans (show _ = some (Value.int .i64 Y.id) from rfl)
        have cY1 := (cell_blk hYb 1).trans (show _ = some (Value.int .i64 Y.at_) from rfl)
        have cY2 := (cell_blk hYb 2).trans (show _ = some (Value.int .i64 Y.coins) from rfl)
        have cY3 := (cell_blk hYb 3).trans (show _ = some (Value.int .i64 Y.seq) from rfl)
        have cY4 := (cell_blk hYb 4).trans (show _ = some (Value.int .i64 Y.last) from rfl)
        have cZ0 := (cell_blk hZb 0).trans (show _ = some (Value.int .i64 Z.id) from rfl)
        have cZ1 := (cell_blk hZb 1).trans (show _ = some (Value.int .i64 Z.at_) from rfl)
        have cZ2 := (cell_blk hZb 2).trans (show _ = some (Value.int .i64 Z.coins) from rfl)
        have cZ3 := (cell_blk hZb 3).trans (show _ = some (Value.int .i64 Z.seq) from rfl)
        have cZ4 := (cell_blk hZb 4).trans (show _ = some (Value.int .i64 Z.last) from rfl)
        have c60 := (cell_blk hR6 0).trans (show _ = some (Value.int .i64 0) from rfl)
        have z60 := frozen_blk hR6 0
        have c61 := (cell_blk hR6 1).trans (show _ = some (Value.slice none 0 0) from rfl)
        have z61 := frozen_blk hR6 1
        have c62 := (cell_blk hR6 2).trans (show _ = some (Value.int .i64 0) from rfl)
        have z62 := frozen_blk hR6 2
        have c63 := (cell_blk hR6 3).trans (show _ = some (Value.slice none 0 0) from rfl)
        have z63 := frozen_blk hR6 3
        have c64 := (cell_blk hR6 4).trans (show _ = some (Value.slice none 0 0) from rfl)
        have z64 := frozen_blk hR6 4
        have c65 := (cell_blk hR6 5).trans (show _ = some (Value.slice none 0 0) from rfl)
        have z65 := frozen_blk hR6 5
        have HCb := hid hC
        have H6b := hid hR6
        have HEV := hid EV
        have HReV := hid (HRe.out.of EV)
        have HWC := hid (show w.heap.size ≤ C ∧ w.heap.size ≤ R6 from ⟨by omega, by omega⟩)
        have HYE := hid hY
        have HZE := hid hZ
        clear hV hC hYb hZb hR6 hZe hR6e hYe hCe hR EV hY hZ
        have dC1 : ∀ t, (ext V.drew t).cell? ⟨C, 1, none⟩ = some (.slice a1 c.wk.length c1) := fun t => (ext_cell' _ _ _ _ lC).trans cC1
        have dZ1 : ∀ t, (ext V.drew t).frozen? ⟨C, 1, none⟩ = false := fun t => (ext_frozen' _ _ _ _ lC).trans zC1
        with_reducible refine wp_region_UR (R) (by kernel_rfl) (by decide +kernel) (by decide +kernel) rfl rfl ?_
        simp only [List.dropLast_cons_cons, List.dropLast_singleton]
        repeat (first
          | (refine mix_pure rfl ?_; (first | go_big_quiet_skip | (go_big_quiet_want; go_big_quiet_op; go_big_quiet_on)); refine wpQuiet_nil ?_)
          | (refine mix_skip (by rfl) ?_; (try simp only [Act.put, List.setIfInBounds_toArray, List.set_cons_zero, List.set_cons_succ]))
          | (refine mix_mk rfl (by rfl) (fun K hK => ?_); (first | (go_simp; first | (go_at_call 95; (with_reducible refine (sWlkPut_c c.wk Y _ _ _ _ (HReV.out.of zq0) hl6).mono ?_); rintro e w' ⟨p5, q5, D5, rfl, ⟨t5, rfl⟩, hr5, hb5⟩; have X5 := hid hr5; have Y5 := hid hb5; have R5 := hid ((hr5.own (k := 5) rfl (fun w x => own_Wlk_mk w x)).re hr5.lt); clear hr5 hb5) | (go_at_call 95; (with_reducible refine (sWlkPut_c (wlkPut c.wk Y) Z _ _ _ _ (R5.out.of zq0) (by have := HLP.out; omega)).mono ?_); rintro e w' ⟨p1, r1, D1, rfl, ⟨t6, rfl⟩, hr6, hb6⟩; have X6 := hid hr6; have Y6 := hid hb6; clear hr6 hb6) | skip)); (show K _ _); refine hK _ _ (extR_of (by repeat (first | with_reducible exact Chg.refl _ _ | with_reducible apply Chg.drew | with_reducible apply Chg.drewl | with_reducible refine Chg.turn (by simp) | with_reducible refine Chg.both ?_ (by simp) | (with_reducible refine Chg.set ?_ (by simp) _) | with_reducible apply Chg.alloc | with_reducible apply Chg.ext | with_reducible refine Chg.trans ?_ (Hid.out (by assumption))))) ?_; clear hK K; (try simp only [Act.put, List.setIfInBounds_toArray, List.set_cons_zero, List.set_cons_succ])))
        refine mixN_nil (fun K hK => ?_)
        go_simp
        (show K _ _)
        refine hK _ _ ?_
        clear hK K
        (try simp only [Act.put, List.setIfInBounds_toArray, List.set_cons_zero, List.set_cons_succ])
        simp only [Exit.then]
        rename_i hKont
        refine hKont _ _ ?_
        clear hKont
        refine wp_gen fun V2 hV2 => ?_
        have bC2 : V2.heap[C]? = some (.cells #[.int .i64 c.cell, .slice p1 (wlkPut (wlkPut c.wk Y) Z).length r1, .int .i64 c.ground, .slice a3 c.outs.length c3, .slice a4 c.next.length c4, .slice a5 c.ins.length c5] 37 (0, 0)) := by rw [hV2]; exact (by (repeat (first | with_reducible apply blk_drew | (with_reducible refine blk_other ?_ (by first | assumption | omega)) | with_reducible refine blk_ext ?_ | with_reducible refine blk_alloc ?_)); apply blk_set2; (repeat (first | with_reducible exact HCb.out | with_reducible apply blk_drew | (with_reducible refine blk_other ?_ (by first | assumption | omega)) | with_reducible refine blk_ext ?_ | with_reducible refine blk_alloc ?_)); rfl)
        have b62 : V2.heap[R6]? = some (.cells #[.int .i64 0, .slice none 0 0, .int .i64 0, .slice none 0 0, .slice none 0 0, .slice none 0 0] 37 (0, 0)) := by rw [hV2]; exact (by repeat (first | with_reducible exact H6b.out | with_reducible apply blk_drew | with_reducible refine blk_set ?_ | (with_reducible refine blk_other ?_ (by first | assumption | omega)) | with_reducible refine blk_ext ?_ | with_reducible refine blk_alloc ?_))
        have hc2 : Chg [C] V V2 := by rw [hV2]; exact zq1
        have hx6 : RowX V2 43 5 Wlk.cells (.slice p1 (wlkPut (wlkPut c.wk Y) Z).length r1) (wlkPut (wlkPut c.wk Y) Z) D1 := by
          rw [hV2]
          exact (X6.out.of zq0).chg (B' := [C]) zq1 (fun b9 hb9 => by have := Y6.out b9 hb9; simp [go_sem] at this; simp; omega)
        have hD1 : ∀ b ∈ D1, V.heap.size ≤ b := fun b9 hb9 => by have := Y6.out b9 hb9; simp [go_sem] at this; omega
        have u0 := (cell_blk bC2 0).trans (show _ = some (Value.int .i64 c.cell) from rfl)
        have u1 := (cell_blk bC2 1).trans (show _ = some (Value.slice p1 (wlkPut (wlkPut c.wk Y) Z).length r1) from rfl)
        have u2 := (cell_blk bC2 2).trans (show _ = some (Value.int .i64 c.ground) from rfl)
        have u3 := (cell_blk bC2 3).trans (show _ = some (Value.slice a3 c.outs.length c3) from rfl)
        have u4 := (cell_blk bC2 4).trans (show _ = some (Value.slice a4 c.next.length c4) from rfl)
        have u5 := (cell_blk bC2 5).trans (show _ = some (Value.slice a5 c.ins.length c5) from rfl)
        have v0 := (cell_blk b62 0).trans (show _ = some (Value.int .i64 0) from rfl)
        have vz0 := frozen_blk b62 0
        have v1 := (cell_blk b62 1).trans (show _ = some (Value.slice none 0 0) from rfl)
        have vz1 := frozen_blk b62 1
        have v2 := (cell_blk b62 2).trans (show _ = some (Value.int .i64 0) from rfl)
        have vz2 := frozen_blk b62 2
        have v3 := (cell_blk b62 3).trans (show _ = some (Value.slice none 0 0) from rfl)
        have vz3 := frozen_blk b62 3
        have v4 := (cell_blk b62 4).trans (show _ = some (Value.slice none 0 0) from rfl)
        have vz4 := frozen_blk b62 4
        have v5 := (cell_blk b62 5).trans (show _ = some (Value.slice none 0 0) from rfl)
        have vz5 := frozen_blk b62 5
        have lC2 := lt_blk bC2
        have l62 := lt_blk b62
        have HX6 := hid hx6
        have HD1 := hid hD1
        have HC2 := hid hc2
        clear hV2 bC2 b62 hx6 hD1 hc2
        go_wp2_with (fail)
        refine bodyPost_ret (v := .tuple #[.agg #[.int .i64 c.cell, .slice p1 (wlkPut (wlkPut c.wk Y) Z).length r1, .int .i64 c.ground, .slice a3 c.outs.length c3, .slice a4 c.next.length c4, .slice a5 c.ins.length c5], .int .i64 1]) (by simp [results, Try.results132, go_sem, v0, v1, v2, v3, v4, v5, l62]) rfl ?_
        have hwV : Chg B1 w V2 := Chg.up (Chg.of_ext HEV.out B1) HC2.out (by simpa using HWC.out.1)
        have hx7 := (HX.out.setWk hwV HX6.out (fun b hb => .inr (Nat.le_trans HEV.out.size (HD1.out b hb))))
        have hlt : ∀ b ∈ D1 ++ (B3 ++ (B4 ++ B5)), b ≠ R6 := fun b hb e => by
          rcases List.mem_append.1 hb with h9 | h9
          · have := HD1.out b h9; omega
          · have := HX.out.lt b (List.mem_append_right _ h9); have := HWC.out.2; omega
        refine ⟨⟨p1, r1, a3, c3, a4, c4, a5, c5⟩, D1, B3, by rw [HYE.out, HZE.out]; rfl, ?_, (Chg.up (Chg.up (Chg.of_ext HEV.out _) HC2.out (by simpa using HWC.out.1)) (B' := [R6]) zq1 (by simpa using HWC.out.2)), fun b hb => ?_⟩
        · rw [HYE.out, HZE.out] at hx7
          exact hx7.chg (B' := [R6]) zq1 (fun b hb => by simpa using hlt b hb)
        · rcases List.mem_append.1 hb with h9 | h9
          · exact .inr (Nat.le_trans HEV.out.size (HD1.out b h9))
          · exact .inl (List.mem_append_right _ h9)
end Go.Proofs.Ytablgohncilmfaa

