/- The ghosts of a hold towards a side. -/
import Derived.Test.YtdogknbkcididaaHldOk
import Derived.Test.YtdogknbkcididaaTGst
import Derived.Test.YtdogknbkcididaaGstO
namespace Go.Proofs.Ytdogknbkcididaa
open Go.RowKit
set_option linter.unusedSimpArgs false
set_option linter.unusedVariables false

theorem fm_yes {α β : Type} {p : α → Bool} (g : α → β) {xs : List α} {k : Nat} {x : α} (hx : xs[k]? = some x) (hp : p x = true) : ((xs.take (k + 1)).filter p).map g = ((xs.take k).filter p).map g ++ [g x] := by
  rw [filt_yes hx hp, List.map_append]; rfl
theorem fm_no {α β : Type} {p : α → Bool} (g : α → β) {xs : List α} {k : Nat} {x : α} (hx : xs[k]? = some x) (hp : p x = false) : ((xs.take (k + 1)).filter p).map g = ((xs.take k).filter p).map g := by
  rw [filt_no hx hp]
theorem fm_len {α β : Type} (p : α → Bool) (g : α → β) (xs : List α) (k : Nat) : (((xs.take k).filter p).map g).length ≤ k := by
  rw [List.length_map]; exact filt_len p xs k
def gstW (x : Hld) (v : Wlk) : Gst := ⟨x.st.cell, x.count, v⟩
def edgeW (m : Mp) (s : Int) (v : Wlk) : Bool := plcEdge m v.at_ s
def gstL (m : Mp) (x : Hld) (s : Int) : List Gst := (x.st.wk.filter (edgeW m s)).map (gstW x)
def gstOfV (m : Mp) (x : Hld) (s : Int) : List Gst := bif hldOk m x then gstL m x s else []
theorem gstOfV_len (m : Mp) (x : Hld) (s : Int) : (gstOfV m x s).length ≤ x.st.wk.length := by
  unfold gstOfV gstL
  cases hldOk m x
  · simp
  · simp only [cond_true, List.length_map]; exact List.length_filter_le _ _
theorem iPlcEdge_h (m : Mp) (p s : Int) (b : Bool) (w : World) (h : Hid (plcEdge m p s = b)) : Calls Try.prog 53 #[.agg #[.int .i64 m.c, .int .i64 m.w], .int .i64 p, .int .i64 s] w fun e w' => e = .returned (.bool b) ∧ Ext w w' := h.out ▸ iPlcEdge_c m p s w
theorem sPlcEdge_h (m : Mp) (p s : Int) (b : Bool) (w : World) (h : Hid (plcEdge m p s = b)) : Calls Try.prog 24 #[.agg #[.int .i64 m.c, .int .i64 m.w], .int .i64 p, .int .i64 s] w fun e w' => e = .returned (.bool b) ∧ Ext w w' := h.out ▸ sPlcEdge_c m p s w
theorem iHldOk_h (m : Mp) (x : Hld) (h : CllH) (b : Bool) (w : World) (hx : ReC w x.st h) (hb : BdC x.st) (hg : Hid (hldOk m x = b)) : Calls Try.prog 26 #[.agg #[.int .i64 m.c, .int .i64 m.w], .agg #[.int .i64 x.age, .int .i64 x.count, .int .i64 x.st.cell, .slice h.a1 x.st.wk.length h.c1, .int .i64 x.st.ground, .slice h.a3 x.st.outs.length h.c3, .slice h.a4 x.st.next.length h.c4, .slice h.a5 x.st.ins.length h.c5]] w fun e w' => e = .returned (.bool b) ∧ Ext w w' := hg.out ▸ iHldOk_c m x h w hx hb
theorem sHldOk_h (m : Mp) (x : Hld) (h : CllH) (b : Bool) (w : World) (hx : ReC w x.st h) (hb : BdC x.st) (hg : Hid (hldOk m x = b)) : Calls Try.prog 23 #[.agg #[.int .i64 m.c, .int .i64 m.w], .agg #[.int .i64 x.age, .int .i64 x.count, .int .i64 x.st.cell, .slice h.a1 x.st.wk.length h.c1, .int .i64 x.st.ground, .slice h.a3 x.st.outs.length h.c3, .slice h.a4 x.st.next.length h.c4, .slice h.a5 x.st.ins.length h.c5]] w fun e w' => e = .returned (.bool b) ∧ Ext w w' := hg.out ▸ sHldOk_c m x h w hx hb
/-- What was made behind a world is made behind an earlier one. -/
theorem MadeL.from {w W w' : World} {sch : Sch} {n : Nat} {ds : List Dat} {e : Ending} (h : MadeL W sch n ds e w') (hE : Ext w W) : MadeL w sch n ds e w' := by
  obtain ⟨a, c, h1, h2, h3⟩ := h
  exact ⟨a, c, h1, hE.trans h2, h3.mono hE.size (Nat.le_refl _) h3.1⟩
set_option maxRecDepth 100000 in
set_option maxHeartbeats 4000000 in
theorem ghosts_c (m : Mp) (x : Hld) (h : CllH) (s : Int) (w : World) (hx : ReC w x.st h) (hb : BdC x.st) :
    Calls Try.prog 27 #[.agg #[.int .i64 x.age, .int .i64 x.count, .int .i64 x.st.cell, .slice h.a1 x.st.wk.length h.c1, .int .i64 x.st.ground, .slice h.a3 x.st.outs.length h.c3, .slice h.a4 x.st.next.length h.c4, .slice h.a5 x.st.ins.length h.c5], .agg #[.int .i64 m.c, .int .i64 m.w], .int .i64 s] w (MadeL w sGst (gstL m x s).length ((gstL m x s).map Gst.dat)) := by
  have HX := hid hx
  have H1 := hid hx.r1
  have HB := hid hb
  have hn := hb.b1
  clear hx hb
  obtain ⟨a1, c1, a3, c3, a4, c4, a5, c5⟩ := h
  dsimp only at H1 ⊢
  unfold gstL
  go_enter Try.func27, Try.ntmps27
  try go_wp2_with (first
      | fail
      | (
        with_reducible refine wp_region_mix (by kernel_rfl) (by decide +kernel) ?_
        repeat (first
          | (refine mix_pure rfl ?_; (first | go_big_quiet_skip | (go_big_quiet_want; go_big_quiet_op; go_big_quiet_on)); refine wpQuiet_nil ?_)
          | (refine mix_skip (by rfl) ?_; (try simp only [Act.put, List.setIfInBounds_toArray, List.set_cons_zero, List.set_cons_succ]))
          | (refine mix_mk rfl (by rfl) (fun K hK => ?_); (first | (go_simp; first | skip)); (show K _ _); refine hK _ _ (show Ext _ _ from (by ((try simp only [ext_drew]); (try simp only [ext_ext]); repeat (first | exact Ext.refl _ | with_reducible apply Ext.add | with_reducible apply Ext.dr | apply Ext.alloc | apply Ext.ext | apply Ext.drew | refine Ext.trans ?_ (by assumption))))) ?_; clear hK K; (try simp only [Act.put, List.setIfInBounds_toArray, List.set_cons_zero, List.set_cons_succ])))
        refine mix_nil ?_)
      | (
        with_reducible refine wp_region_ext (by kernel_rfl) (by kernel_rfl) ?_
        repeat (first | go_big_quiet_skip | (go_big_quiet_want; go_big_quiet_op; first | go_big_quiet_on | (apply Exists.intro; refine ⟨fun _ => ?_, ?_⟩; (fail); (try rw [h1]); (try rw [h2]); (try rw [h3]); (try rw [h4]); (try rw [p1]); (try rw [p2]); (try rw [p3]); (try rw [p4]); (try rw [r1]); (try rw [r2]); (try rw [r3]); (try rw [r4]); (try rw [r5]); (try rw [r6]); (try rw [q3]); (try rw [q4]); (try rw [hp]); (try rw [hq]); go_big_quiet_on)))
        refine wpQuiet_nil ?_
        rintro _ ⟨tq, rfl⟩))
  refine wp_gen fun W2 hW2 => ?_
  have EW : Ext w W2 := by rw [hW2]; ((try simp only [ext_drew]); (try simp only [ext_ext]); repeat (first | exact Ext.refl _ | with_reducible apply Ext.add | with_reducible apply Ext.dr | apply Ext.alloc | apply Ext.ext | apply Ext.drew | refine Ext.trans ?_ (by assumption)))
  have H2 := hid (H1.out.of EW)
  obtain ⟨A, hA⟩ : ∃ A, w.heap.size = A := ⟨_, rfl⟩
  have l0 : A + 1 < W2.heap.size := by rw [hW2, ← hA]; ((try simp [go_sem]) <;> (try simp [Xt.add]) <;> omega)
  have l1 : A < W2.heap.size := by omega
  have e0 : W2.cell? ⟨A, 0, none⟩ = some (.int .i64 x.age) := by rw [hW2, ← hA]; simp [go_sem]
  have e1 : W2.cell? ⟨A, 1, none⟩ = some (.int .i64 x.count) := by rw [hW2, ← hA]; simp [go_sem]
  have e2 : W2.cell? ⟨A, 2, none⟩ = some (.int .i64 x.st.cell) := by rw [hW2, ← hA]; simp [go_sem]
  have e3 : W2.cell? ⟨A, 3, none⟩ = some (.slice a1 x.st.wk.length c1) := by rw [hW2, ← hA]; simp [go_sem]
  have e4 : W2.cell? ⟨A, 4, none⟩ = some (.int .i64 x.st.ground) := by rw [hW2, ← hA]; simp [go_sem]
  have e5 : W2.cell? ⟨A, 5, none⟩ = some (.slice a3 x.st.outs.length c3) := by rw [hW2, ← hA]; simp [go_sem]
  have e6 : W2.cell? ⟨A, 6, none⟩ = some (.slice a4 x.st.next.length c4) := by rw [hW2, ← hA]; simp [go_sem]
  have e7 : W2.cell? ⟨A, 7, none⟩ = some (.slice a5 x.st.ins.length c5) := by rw [hW2, ← hA]; simp [go_sem]
  have g0 : W2.cell? ⟨A + 1, 0, none⟩ = some (.int .i64 m.c) := by rw [hW2, ← hA]; simp [go_sem]
  have g1 : W2.cell? ⟨A + 1, 1, none⟩ = some (.int .i64 m.w) := by rw [hW2, ← hA]; simp [go_sem]
  have HW2 := hid EW
  rw [hA]
  clear hA hW2 EW
  obtain ⟨ws, hws⟩ : ∃ ws, x.st.wk = ws := ⟨_, rfl⟩
  obtain ⟨n, hnn⟩ : ∃ n, ws.length = n := ⟨_, rfl⟩
  rw [hws] at H2 hn e3 ⊢
  rw [hnn] at H2 hn e3 ⊢
  have HWS := hid hws
  clear hnn hws H1 HX
  go_loopw [7, 14] (fun v i wr => ∃ (k : Nat), k ≤ n ∧ i = .int .i64 k ∧ wr.ownsRow W2.heap.size 68 7 v (((ws.take k).filter (edgeW m s)).map (gstW x)).length ((((ws.take k).filter (edgeW m s)).map (gstW x)).flatMap Gst.cells) ∧ Ext W2 wr) (fun _ i _ => n - (intOf i).toNat)
  case atStart => exact ⟨0, Nat.zero_le _, rfl, by simpa using World.ownsRow_nil _ _ _ _, (by ((try simp only [ext_drew]); (try simp only [ext_ext]); repeat (first | exact Ext.refl _ | with_reducible apply Ext.add | with_reducible apply Ext.dr | apply Ext.alloc | apply Ext.ext | apply Ext.drew | refine Ext.trans ?_ (by assumption))))⟩
  case round =>
    obtain ⟨k, hk, rfl, hg, t, rfl⟩ := hrel
    have HG := hid hg
    clear hg
    by_cases hlt : k < n
    · obtain ⟨y, b1, o1, hxk, rfl, hb1, f0, f1, f2, f3, f4⟩ := at_Wlk H2.out hlt
      have HK := hid hxk
      clear hxk
      have hfl := fm_len (edgeW m s) (gstW x) ws k
      cases hp : plcEdge m y.at_ s with
      | false =>
        have HP := hid hp
        have HF := hid (fm_no (p := edgeW m s) (gstW x) HK.out (by simp [edgeW, hp]))
        clear hp
        try go_wp2_with (first
            | (go_at_call 53; refine (iPlcEdge_h m _ _ _ _ (by assumption)).mono ?_; rintro e w' ⟨rfl, t, rfl⟩)
            | (
              with_reducible refine wp_region_mix (by kernel_rfl) (by decide +kernel) ?_
              repeat (first
                | (refine mix_pure rfl ?_; (first | go_big_quiet_skip | (go_big_quiet_want; go_big_quiet_op; go_big_quiet_on)); refine wpQuiet_nil ?_)
                | (refine mix_skip (by rfl) ?_; (try simp only [Act.put, List.setIfInBounds_toArray, List.set_cons_zero, List.set_cons_succ]))
                | (refine mix_mk rfl (by rfl) (fun K hK => ?_); (first | (go_simp; first | (go_at_call 53; refine (iPlcEdge_h m _ _ _ _ (by assumption)).mono ?_; rintro e w' ⟨rfl, t, rfl⟩) | skip)); (show K _ _); refine hK _ _ (show Ext _ _ from (by ((try simp only [ext_drew]); (try simp only [ext_ext]); repeat (first | exact Ext.refl _ | with_reducible apply Ext.add | with_reducible apply Ext.dr | apply Ext.alloc | apply Ext.ext | apply Ext.drew | refine Ext.trans ?_ (by assumption))))) ?_; clear hK K; (try simp only [Act.put, List.setIfInBounds_toArray, List.set_cons_zero, List.set_cons_succ])))
              refine mix_nil ?_)
            | (
              with_reducible refine wp_region_ext (by kernel_rfl) (by kernel_rfl) ?_
              repeat (first | go_big_quiet_skip | (go_big_quiet_want; go_big_quiet_op; first | go_big_quiet_on | (apply Exists.intro; refine ⟨fun _ => ?_, ?_⟩; ((first | (go_at_call 53; first | exact quiet_call (iPlcEdge_h m _ _ _ _ (by assumption)) | exact quiet_call2 (iPlcEdge_h m _ _ _ _ (by assumption))))); (try rw [h1]); (try rw [h2]); (try rw [h3]); (try rw [h4]); (try rw [p1]); (try rw [p2]); (try rw [p3]); (try rw [p4]); (try rw [r1]); (try rw [r2]); (try rw [r3]); (try rw [r4]); (try rw [r5]); (try rw [r6]); (try rw [q3]); (try rw [q4]); (try rw [hp]); (try rw [hq]); go_big_quiet_on)))
              refine wpQuiet_nil ?_
              rintro _ ⟨tq, rfl⟩))
        go_roundw
        case rel => exact ⟨k + 1, by omega, by go_num, by rw [HF.out]; exact (by repeat (first | with_reducible apply ownsRow_alloc | exact HG.out | with_reducible apply ownsRow_drew | with_reducible apply ownsRow_ext)), (by ((try simp only [ext_drew]); (try simp only [ext_ext]); repeat (first | exact Ext.refl _ | with_reducible apply Ext.add | with_reducible apply Ext.dr | apply Ext.alloc | apply Ext.ext | apply Ext.drew | refine Ext.trans ?_ (by assumption))))⟩
        case measure => simp [intOf]; omega
      | true =>
        have HP := hid hp
        have HF := hid (fm_yes (p := edgeW m s) (gstW x) HK.out (by simp [edgeW, hp]))
        clear hp
        go_wp2_with (first | (go_at_call 53; refine (iPlcEdge_h m _ _ _ _ (by assumption)).mono ?_; rintro e w' ⟨rfl, t, rfl⟩) | ((refine wpList_app_Gst (w0 := W2) (xs := ((ws.take k).filter (edgeW m s)).map (gstW x)) rfl _ _ rfl rfl (by ((try simp only [ext_drew]); (try simp only [ext_ext]); repeat (first | exact Ext.refl _ | with_reducible apply Ext.add | with_reducible apply Ext.dr | apply Ext.alloc | apply Ext.ext | apply Ext.drew | refine Ext.trans ?_ (by assumption)))) (by repeat (first | with_reducible apply ownsRow_alloc | exact HG.out | with_reducible apply ownsRow_drew | with_reducible apply ownsRow_ext)) (gstW x y) rfl (alloc_last (by simp [go_sem])) (by omega) ?_); intro v' t' hg; have HG' := hid hg; clear hg))
        go_roundw
        case rel => exact ⟨k + 1, by omega, by go_num, by rw [HF.out]; exact HG'.out, (by ((try simp only [ext_drew]); (try simp only [ext_ext]); repeat (first | exact Ext.refl _ | with_reducible apply Ext.add | with_reducible apply Ext.dr | apply Ext.alloc | apply Ext.ext | apply Ext.drew | refine Ext.trans ?_ (by assumption))))⟩
        case measure => simp [intOf]; omega
    · have HE := hid (show ws.take k = ws from List.take_of_length_le (by rw [← H2.out.len]; omega))
      try go_wp2_with (first
          | fail
          | (
            with_reducible refine wp_region_mix (by kernel_rfl) (by decide +kernel) ?_
            repeat (first
              | (refine mix_pure rfl ?_; (first | go_big_quiet_skip | (go_big_quiet_want; go_big_quiet_op; go_big_quiet_on)); refine wpQuiet_nil ?_)
              | (refine mix_skip (by rfl) ?_; (try simp only [Act.put, List.setIfInBounds_toArray, List.set_cons_zero, List.set_cons_succ]))
              | (refine mix_mk rfl (by rfl) (fun K hK => ?_); (first | (go_simp; first | skip)); (show K _ _); refine hK _ _ (show Ext _ _ from (by ((try simp only [ext_drew]); (try simp only [ext_ext]); repeat (first | exact Ext.refl _ | with_reducible apply Ext.add | with_reducible apply Ext.dr | apply Ext.alloc | apply Ext.ext | apply Ext.drew | refine Ext.trans ?_ (by assumption))))) ?_; clear hK K; (try simp only [Act.put, List.setIfInBounds_toArray, List.set_cons_zero, List.set_cons_succ])))
            refine mix_nil ?_)
          | (
            with_reducible refine wp_region_ext (by kernel_rfl) (by kernel_rfl) ?_
            repeat (first | go_big_quiet_skip | (go_big_quiet_want; go_big_quiet_op; first | go_big_quiet_on | (apply Exists.intro; refine ⟨fun _ => ?_, ?_⟩; (fail); (try rw [h1]); (try rw [h2]); (try rw [h3]); (try rw [h4]); (try rw [p1]); (try rw [p2]); (try rw [p3]); (try rw [p4]); (try rw [r1]); (try rw [r2]); (try rw [r3]); (try rw [r4]); (try rw [r5]); (try rw [r6]); (try rw [q3]); (try rw [q4]); (try rw [hp]); (try rw [hq]); go_big_quiet_on)))
            refine wpQuiet_nil ?_
            rintro _ ⟨tq, rfl⟩))
      go_ret
      rw [HE.out] at HG
      have hfin := (MadeL.mk_row (k := 7) rfl (fun w x => own_Gst_mk w x) (fun _ => rfl) (by ((try simp only [ext_drew]); (try simp only [ext_ext]); repeat (first | exact Ext.refl _ | with_reducible apply Ext.add | with_reducible apply Ext.dr | apply Ext.alloc | apply Ext.ext | apply Ext.drew | refine Ext.trans ?_ (by assumption)))) (by have := fm_len (edgeW m s) (gstW x) ws n; rw [List.take_of_length_le (by rw [← H2.out.len]; omega)] at this; omega) HG.out).from HW2.out
      rw [← HWS.out] at hfin
      exact hfin
set_option maxRecDepth 100000 in
set_option maxHeartbeats 4000000 in
theorem iGstOf_c (m : Mp) (x : Hld) (h : CllH) (s : Int) (w : World) (hx : ReC w x.st h) (hb : BdC x.st) :
    Calls Try.prog 9 #[.agg #[.int .i64 m.c, .int .i64 m.w], .agg #[.int .i64 x.age, .int .i64 x.count, .int .i64 x.st.cell, .slice h.a1 x.st.wk.length h.c1, .int .i64 x.st.ground, .slice h.a3 x.st.outs.length h.c3, .slice h.a4 x.st.next.length h.c4, .slice h.a5 x.st.ins.length h.c5], .int .i64 s] w (MadeL w sGst (gstOfV m x s).length ((gstOfV m x s).map Gst.dat)) := by
  have HX := hid hx
  have HB := hid hb
  clear hx hb
  cases ok : hldOk m x with
  | false =>
    have OK := hid ok
    rw [show gstOfV m x s = [] by simp [gstOfV, ok]]
    clear ok
    go_enter Try.func9, Try.ntmps9
    try go_wp2_with (first
        | (go_at_call 26; (with_reducible refine (iHldOk_h m x h false _ (ReC.of HX.out (by ((try simp only [ext_drew]); (try simp only [ext_ext]); repeat (first | exact Ext.refl _ | with_reducible apply Ext.add | with_reducible apply Ext.dr | apply Ext.alloc | apply Ext.ext | apply Ext.drew | refine Ext.trans ?_ (by assumption))))) HB.out OK).mono ?_); rintro e w' ⟨rfl, t, rfl⟩)
        | (
          with_reducible refine wp_region_mix (by kernel_rfl) (by decide +kernel) ?_
          repeat (first
            | (refine mix_pure rfl ?_; (first | go_big_quiet_skip | (go_big_quiet_want; go_big_quiet_op; go_big_quiet_on)); refine wpQuiet_nil ?_)
            | (refine mix_skip (by rfl) ?_; (try simp only [Act.put, List.setIfInBounds_toArray, List.set_cons_zero, List.set_cons_succ]))
            | (refine mix_mk rfl (by rfl) (fun K hK => ?_); (first | (go_simp; first | (go_at_call 26; (with_reducible refine (iHldOk_h m x h false _ (ReC.of HX.out (by ((try simp only [ext_drew]); (try simp only [ext_ext]); repeat (first | exact Ext.refl _ | with_reducible apply Ext.add | with_reducible apply Ext.dr | apply Ext.alloc | apply Ext.ext | apply Ext.drew | refine Ext.trans ?_ (by assumption))))) HB.out OK).mono ?_); rintro e w' ⟨rfl, t, rfl⟩) | skip)); (show K _ _); refine hK _ _ (show Ext _ _ from (by ((try simp only [ext_drew]); (try simp only [ext_ext]); repeat (first | exact Ext.refl _ | with_reducible apply Ext.add | with_reducible apply Ext.dr | apply Ext.alloc | apply Ext.ext | apply Ext.drew | refine Ext.trans ?_ (by assumption))))) ?_; clear hK K; (try simp only [Act.put, List.setIfInBounds_toArray, List.set_cons_zero, List.set_cons_succ])))
          refine mix_nil ?_)
        | (
          with_reducible refine wp_region_ext (by kernel_rfl) (by kernel_rfl) ?_
          repeat (first | go_big_quiet_skip | (go_big_quiet_want; go_big_quiet_op; first | go_big_quiet_on | (apply Exists.intro; refine ⟨fun _ => ?_, ?_⟩; (fail); (try rw [h1]); (try rw [h2]); (try rw [h3]); (try rw [h4]); (try rw [p1]); (try rw [p2]); (try rw [p3]); (try rw [p4]); (try rw [r1]); (try rw [r2]); (try rw [r3]); (try rw [r4]); (try rw [r5]); (try rw [r6]); (try rw [q3]); (try rw [q4]); (try rw [hp]); (try rw [hq]); go_big_quiet_on)))
          refine wpQuiet_nil ?_
          rintro _ ⟨tq, rfl⟩))
    go_ret
    exact ⟨_, 0, rfl, (by ((try simp only [ext_drew]); (try simp only [ext_ext]); repeat (first | exact Ext.refl _ | with_reducible apply Ext.add | with_reducible apply Ext.dr | apply Ext.alloc | apply Ext.ext | apply Ext.drew | refine Ext.trans ?_ (by assumption)))), Nat.le_refl _, [], by simp, by simp, by unfold Own; exact ⟨[], rfl, Nat.zero_le _, .inl ⟨rfl, rfl, _, 0, rfl⟩⟩⟩
  | true =>
    have OK := hid ok
    rw [show gstOfV m x s = gstL m x s by simp [gstOfV, ok]]
    clear ok
    obtain ⟨v, hv⟩ : ∃ v, gstL m x s = v := ⟨_, rfl⟩
    have HG := hid (fun (w : World) (hr : ReC w x.st h) => (show Calls Try.prog 27 #[.agg #[.int .i64 x.age, .int .i64 x.count, .int .i64 x.st.cell, .slice h.a1 x.st.wk.length h.c1, .int .i64 x.st.ground, .slice h.a3 x.st.outs.length h.c3, .slice h.a4 x.st.next.length h.c4, .slice h.a5 x.st.ins.length h.c5], .agg #[.int .i64 m.c, .int .i64 m.w], .int .i64 s] w (MadeL w sGst v.length (v.map Gst.dat)) from hv ▸ ghosts_c m x h s w hr HB.out))
    rw [hv]
    clear hv
    go_enter Try.func9, Try.ntmps9
    try go_wp2_with (first
        | (go_at_call 26; (with_reducible refine (iHldOk_h m x h true _ (ReC.of HX.out (by ((try simp only [ext_drew]); (try simp only [ext_ext]); repeat (first | exact Ext.refl _ | with_reducible apply Ext.add | with_reducible apply Ext.dr | apply Ext.alloc | apply Ext.ext | apply Ext.drew | refine Ext.trans ?_ (by assumption))))) HB.out OK).mono ?_); rintro e w' ⟨rfl, t, rfl⟩) | (go_at_call 27; (with_reducible refine (HG.out _ (ReC.of HX.out (by ((try simp only [ext_drew]); (try simp only [ext_ext]); repeat (first | exact Ext.refl _ | with_reducible apply Ext.add | with_reducible apply Ext.dr | apply Ext.alloc | apply Ext.ext | apply Ext.drew | refine Ext.trans ?_ (by assumption)))))).mono ?_); rintro e w' ⟨a, c, rfl, ⟨t, rfl⟩, ho⟩; have HO := hid ho; clear ho)
        | (
          with_reducible refine wp_region_mix (by kernel_rfl) (by decide +kernel) ?_
          repeat (first
            | (refine mix_pure rfl ?_; (first | go_big_quiet_skip | (go_big_quiet_want; go_big_quiet_op; go_big_quiet_on)); refine wpQuiet_nil ?_)
            | (refine mix_skip (by rfl) ?_; (try simp only [Act.put, List.setIfInBounds_toArray, List.set_cons_zero, List.set_cons_succ]))
            | (refine mix_mk rfl (by rfl) (fun K hK => ?_); (first | (go_simp; first | (go_at_call 26; (with_reducible refine (iHldOk_h m x h true _ (ReC.of HX.out (by ((try simp only [ext_drew]); (try simp only [ext_ext]); repeat (first | exact Ext.refl _ | with_reducible apply Ext.add | with_reducible apply Ext.dr | apply Ext.alloc | apply Ext.ext | apply Ext.drew | refine Ext.trans ?_ (by assumption))))) HB.out OK).mono ?_); rintro e w' ⟨rfl, t, rfl⟩) | (go_at_call 27; (with_reducible refine (HG.out _ (ReC.of HX.out (by ((try simp only [ext_drew]); (try simp only [ext_ext]); repeat (first | exact Ext.refl _ | with_reducible apply Ext.add | with_reducible apply Ext.dr | apply Ext.alloc | apply Ext.ext | apply Ext.drew | refine Ext.trans ?_ (by assumption)))))).mono ?_); rintro e w' ⟨a, c, rfl, ⟨t, rfl⟩, ho⟩; have HO := hid ho; clear ho) | skip)); (show K _ _); refine hK _ _ (show Ext _ _ from (by ((try simp only [ext_drew]); (try simp only [ext_ext]); repeat (first | exact Ext.refl _ | with_reducible apply Ext.add | with_reducible apply Ext.dr | apply Ext.alloc | apply Ext.ext | apply Ext.drew | refine Ext.trans ?_ (by assumption))))) ?_; clear hK K; (try simp only [Act.put, List.setIfInBounds_toArray, List.set_cons_zero, List.set_cons_succ])))
          refine mix_nil ?_)
        | (
          with_reducible refine wp_region_ext (by kernel_rfl) (by kernel_rfl) ?_
          repeat (first | go_big_quiet_skip | (go_big_quiet_want; go_big_quiet_op; first | go_big_quiet_on | (apply Exists.intro; refine ⟨fun _ => ?_, ?_⟩; (fail); (try rw [h1]); (try rw [h2]); (try rw [h3]); (try rw [h4]); (try rw [p1]); (try rw [p2]); (try rw [p3]); (try rw [p4]); (try rw [r1]); (try rw [r2]); (try rw [r3]); (try rw [r4]); (try rw [r5]); (try rw [r6]); (try rw [q3]); (try rw [q4]); (try rw [hp]); (try rw [hq]); go_big_quiet_on)))
          refine wpQuiet_nil ?_
          rintro _ ⟨tq, rfl⟩))
    go_ret
    exact ⟨a, c, rfl, (by ((try simp only [ext_drew]); (try simp only [ext_ext]); repeat (first | exact Ext.refl _ | with_reducible apply Ext.add | with_reducible apply Ext.dr | apply Ext.alloc | apply Ext.ext | apply Ext.drew | refine Ext.trans ?_ (by assumption)))), by have Q := HO.out; (try rw [ext_ext] at Q); exact Q.mono (by (try simp [go_sem]) <;> (try simp [Xt.add]) <;> omega) (Nat.le_refl _) (Nat.le_refl _)⟩
set_option maxRecDepth 100000 in
set_option maxHeartbeats 4000000 in
theorem sGstOf_c (m : Mp) (x : Hld) (h : CllH) (s : Int) (w : World) (hx : ReC w x.st h) (hb : BdC x.st) :
    Calls Try.prog 6 #[.agg #[.int .i64 m.c, .int .i64 m.w], .agg #[.int .i64 x.age, .int .i64 x.count, .int .i64 x.st.cell, .slice h.a1 x.st.wk.length h.c1, .int .i64 x.st.ground, .slice h.a3 x.st.outs.length h.c3, .slice h.a4 x.st.next.length h.c4, .slice h.a5 x.st.ins.length h.c5], .int .i64 s] w (MadeL w sGst (gstOfV m x s).length ((gstOfV m x s).map Gst.dat)) := by
  have HX := hid hx
  have H1 := hid hx.r1
  have HB := hid hb
  have hn := hb.b1
  clear hx hb
  obtain ⟨a1, c1, a3, c3, a4, c4, a5, c5⟩ := h
  dsimp only at H1 ⊢
  cases ok : hldOk m x with
  | false =>
    have OK := hid ok
    rw [show gstOfV m x s = [] by simp [gstOfV, ok]]
    clear ok
    go_enter Try.func6, Try.ntmps6
    try go_wp2_with (first
        | (go_at_call 23; (with_reducible refine (sHldOk_h m x ⟨a1, c1, a3, c3, a4, c4, a5, c5⟩ false _ (ReC.of HX.out (by ((try simp only [ext_drew]); (try simp only [ext_ext]); repeat (first | exact Ext.refl _ | with_reducible apply Ext.add | with_reducible apply Ext.dr | apply Ext.alloc | apply Ext.ext | apply Ext.drew | refine Ext.trans ?_ (by assumption))))) HB.out OK).mono ?_); rintro e w' ⟨rfl, t, rfl⟩)
        | (
          with_reducible refine wp_region_mix (by kernel_rfl) (by decide +kernel) ?_
          repeat (first
            | (refine mix_pure rfl ?_; (first | go_big_quiet_skip | (go_big_quiet_want; go_big_quiet_op; go_big_quiet_on)); refine wpQuiet_nil ?_)
            | (refine mix_skip (by rfl) ?_; (try simp only [Act.put, List.setIfInBounds_toArray, List.set_cons_zero, List.set_cons_succ]))
            | (refine mix_mk rfl (by rfl) (fun K hK => ?_); (first | (go_simp; first | (go_at_call 23; (with_reducible refine (sHldOk_h m x ⟨a1, c1, a3, c3, a4, c4, a5, c5⟩ false _ (ReC.of HX.out (by ((try simp only [ext_drew]); (try simp only [ext_ext]); repeat (first | exact Ext.refl _ | with_reducible apply Ext.add | with_reducible apply Ext.dr | apply Ext.alloc | apply Ext.ext | apply Ext.drew | refine Ext.trans ?_ (by assumption))))) HB.out OK).mono ?_); rintro e w' ⟨rfl, t, rfl⟩) | skip)); (show K _ _); refine hK _ _ (show Ext _ _ from (by ((try simp only [ext_drew]); (try simp only [ext_ext]); repeat (first | exact Ext.refl _ | with_reducible apply Ext.add | with_reducible apply Ext.dr | apply Ext.alloc | apply Ext.ext | apply Ext.drew | refine Ext.trans ?_ (by assumption))))) ?_; clear hK K; (try simp only [Act.put, List.setIfInBounds_toArray, List.set_cons_zero, List.set_cons_succ])))
          refine mix_nil ?_)
        | (
          with_reducible refine wp_region_ext (by kernel_rfl) (by kernel_rfl) ?_
          repeat (first | go_big_quiet_skip | (go_big_quiet_want; go_big_quiet_op; first | go_big_quiet_on | (apply Exists.intro; refine ⟨fun _ => ?_, ?_⟩; (fail); (try rw [h1]); (try rw [h2]); (try rw [h3]); (try rw [h4]); (try rw [p1]); (try rw [p2]); (try rw [p3]); (try rw [p4]); (try rw [r1]); (try rw [r2]); (try rw [r3]); (try rw [r4]); (try rw [r5]); (try rw [r6]); (try rw [q3]); (try rw [q4]); (try rw [hp]); (try rw [hq]); go_big_quiet_on)))
          refine wpQuiet_nil ?_
          rintro _ ⟨tq, rfl⟩))
    go_ret
    exact ⟨_, 0, rfl, (by ((try simp only [ext_drew]); (try simp only [ext_ext]); repeat (first | exact Ext.refl _ | with_reducible apply Ext.add | with_reducible apply Ext.dr | apply Ext.alloc | apply Ext.ext | apply Ext.drew | refine Ext.trans ?_ (by assumption)))), Nat.le_refl _, [], by simp, by simp, by unfold Own; exact ⟨[], rfl, Nat.zero_le _, .inl ⟨rfl, rfl, _, 0, rfl⟩⟩⟩
  | true =>
    have OK := hid ok
    rw [show gstOfV m x s = gstL m x s by simp [gstOfV, ok]]
    clear ok
    unfold gstL
    go_enter Try.func6, Try.ntmps6
    try go_wp2_with (first
        | (go_at_call 23; (with_reducible refine (sHldOk_h m x ⟨a1, c1, a3, c3, a4, c4, a5, c5⟩ true _ (ReC.of HX.out (by ((try simp only [ext_drew]); (try simp only [ext_ext]); repeat (first | exact Ext.refl _ | with_reducible apply Ext.add | with_reducible apply Ext.dr | apply Ext.alloc | apply Ext.ext | apply Ext.drew | refine Ext.trans ?_ (by assumption))))) HB.out OK).mono ?_); rintro e w' ⟨rfl, t, rfl⟩)
        | (
          with_reducible refine wp_region_mix (by kernel_rfl) (by decide +kernel) ?_
          repeat (first
            | (refine mix_pure rfl ?_; (first | go_big_quiet_skip | (go_big_quiet_want; go_big_quiet_op; go_big_quiet_on)); refine wpQuiet_nil ?_)
            | (refine mix_skip (by rfl) ?_; (try simp only [Act.put, List.setIfInBounds_toArray, List.set_cons_zero, List.set_cons_succ]))
            | (refine mix_mk rfl (by rfl) (fun K hK => ?_); (first | (go_simp; first | (go_at_call 23; (with_reducible refine (sHldOk_h m x ⟨a1, c1, a3, c3, a4, c4, a5, c5⟩ true _ (ReC.of HX.out (by ((try simp only [ext_drew]); (try simp only [ext_ext]); repeat (first | exact Ext.refl _ | with_reducible apply Ext.add | with_reducible apply Ext.dr | apply Ext.alloc | apply Ext.ext | apply Ext.drew | refine Ext.trans ?_ (by assumption))))) HB.out OK).mono ?_); rintro e w' ⟨rfl, t, rfl⟩) | skip)); (show K _ _); refine hK _ _ (show Ext _ _ from (by ((try simp only [ext_drew]); (try simp only [ext_ext]); repeat (first | exact Ext.refl _ | with_reducible apply Ext.add | with_reducible apply Ext.dr | apply Ext.alloc | apply Ext.ext | apply Ext.drew | refine Ext.trans ?_ (by assumption))))) ?_; clear hK K; (try simp only [Act.put, List.setIfInBounds_toArray, List.set_cons_zero, List.set_cons_succ])))
          refine mix_nil ?_)
        | (
          with_reducible refine wp_region_ext (by kernel_rfl) (by kernel_rfl) ?_
          repeat (first | go_big_quiet_skip | (go_big_quiet_want; go_big_quiet_op; first | go_big_quiet_on | (apply Exists.intro; refine ⟨fun _ => ?_, ?_⟩; (fail); (try rw [h1]); (try rw [h2]); (try rw [h3]); (try rw [h4]); (try rw [p1]); (try rw [p2]); (try rw [p3]); (try rw [p4]); (try rw [r1]); (try rw [r2]); (try rw [r3]); (try rw [r4]); (try rw [r5]); (try rw [r6]); (try rw [q3]); (try rw [q4]); (try rw [hp]); (try rw [hq]); go_big_quiet_on)))
          refine wpQuiet_nil ?_
          rintro _ ⟨tq, rfl⟩))
    obtain ⟨W2, hW2⟩ : ∃ W2, W2 = (w.alloc (Obj.cells #[.int .i64 m.c, .int .i64 m.w] 34)).alloc (Obj.cells #[.int .i64 x.age, .int .i64 x.count, .int .i64 x.st.cell, .slice a1 x.st.wk.length c1, .int .i64 x.st.ground, .slice a3 x.st.outs.length c3, .slice a4 x.st.next.length c4, .slice a5 x.st.ins.length c5] 41) := ⟨_, rfl⟩
    rw [← hW2]
    have HS := hid (fun (t : Xt) => (show (ext (W2.alloc (Obj.cells #[] 68)) t).ownsRow W2.heap.size 68 7 (.slice (some ⟨w.heap.size + 1 + 1, 0, none⟩) 0 0) 0 [] from by have e9 : w.heap.size + 1 + 1 = W2.heap.size := (by rw [hW2]; simp); rw [e9]; apply ownsRow_ext; simpa using World.ownsRow_made W2 #[] 0 (Nat.le_refl _) (Nat.zero_le _) (by simp)))
    have EW : Ext w W2 := by rw [hW2]; ((try simp only [ext_drew]); (try simp only [ext_ext]); repeat (first | exact Ext.refl _ | with_reducible apply Ext.add | with_reducible apply Ext.dr | apply Ext.alloc | apply Ext.ext | apply Ext.drew | refine Ext.trans ?_ (by assumption)))
    have H2 := hid (H1.out.of EW)
    obtain ⟨A, hA⟩ : ∃ A, w.heap.size = A := ⟨_, rfl⟩
    have l0 : A + 1 < W2.heap.size := by rw [hW2, ← hA]; ((try simp [go_sem]) <;> (try simp [Xt.add]) <;> omega)
    have l1 : A < W2.heap.size := by omega
    have e0 : W2.cell? ⟨A + 1, 0, none⟩ = some (.int .i64 x.age) := by rw [hW2, ← hA]; simp [go_sem]
    have e1 : W2.cell? ⟨A + 1, 1, none⟩ = some (.int .i64 x.count) := by rw [hW2, ← hA]; simp [go_sem]
    have e2 : W2.cell? ⟨A + 1, 2, none⟩ = some (.int .i64 x.st.cell) := by rw [hW2, ← hA]; simp [go_sem]
    have e3 : W2.cell? ⟨A + 1, 3, none⟩ = some (.slice a1 x.st.wk.length c1) := by rw [hW2, ← hA]; simp [go_sem]
    have e4 : W2.cell? ⟨A + 1, 4, none⟩ = some (.int .i64 x.st.ground) := by rw [hW2, ← hA]; simp [go_sem]
    have e5 : W2.cell? ⟨A + 1, 5, none⟩ = some (.slice a3 x.st.outs.length c3) := by rw [hW2, ← hA]; simp [go_sem]
    have e6 : W2.cell? ⟨A + 1, 6, none⟩ = some (.slice a4 x.st.next.length c4) := by rw [hW2, ← hA]; simp [go_sem]
    have e7 : W2.cell? ⟨A + 1, 7, none⟩ = some (.slice a5 x.st.ins.length c5) := by rw [hW2, ← hA]; simp [go_sem]
    have g0 : W2.cell? ⟨A, 0, none⟩ = some (.int .i64 m.c) := by rw [hW2, ← hA]; simp [go_sem]
    have g1 : W2.cell? ⟨A, 1, none⟩ = some (.int .i64 m.w) := by rw [hW2, ← hA]; simp [go_sem]
    have HW2 := hid EW
    rw [hA] at HS ⊢
    clear hA hW2 EW
    obtain ⟨ws, hws⟩ : ∃ ws, x.st.wk = ws := ⟨_, rfl⟩
    obtain ⟨n, hnn⟩ : ∃ n, ws.length = n := ⟨_, rfl⟩
    rw [hws] at H2 hn e3 ⊢
    rw [hnn] at H2 hn e3 ⊢
    have HWS := hid hws
    clear hnn hws H1 HX
    go_loopw [7, 8] (fun v i wr => ∃ (k : Nat), k ≤ n ∧ i = .int .i64 k ∧ wr.ownsRow W2.heap.size 68 7 v (((ws.take k).filter (edgeW m s)).map (gstW x)).length ((((ws.take k).filter (edgeW m s)).map (gstW x)).flatMap Gst.cells) ∧ Ext W2 wr) (fun _ i _ => n - (intOf i).toNat)
    case atStart => exact ⟨0, Nat.zero_le _, rfl, by simpa using HS.out _, (by ((try simp only [ext_drew]); (try simp only [ext_ext]); repeat (first | exact Ext.refl _ | with_reducible apply Ext.add | with_reducible apply Ext.dr | apply Ext.alloc | apply Ext.ext | apply Ext.drew | refine Ext.trans ?_ (by assumption))))⟩
    case round =>
      obtain ⟨k, hk, rfl, hg, t, rfl⟩ := hrel
      have HG := hid hg
      clear hg
      by_cases hlt : k < n
      · obtain ⟨y, b1, o1, hxk, rfl, hb1, f0, f1, f2, f3, f4⟩ := at_Wlk H2.out hlt
        have HK := hid hxk
        clear hxk
        have hfl := fm_len (edgeW m s) (gstW x) ws k
        cases hp : plcEdge m y.at_ s with
        | false =>
          have HP := hid hp
          have HF := hid (fm_no (p := edgeW m s) (gstW x) HK.out (by simp [edgeW, hp]))
          clear hp
          try go_wp2_with (first
              | (go_at_call 24; refine (sPlcEdge_h m _ _ _ _ (by assumption)).mono ?_; rintro e w' ⟨rfl, t, rfl⟩)
              | (
                with_reducible refine wp_region_mix (by kernel_rfl) (by decide +kernel) ?_
                repeat (first
                  | (refine mix_pure rfl ?_; (first | go_big_quiet_skip | (go_big_quiet_want; go_big_quiet_op; go_big_quiet_on)); refine wpQuiet_nil ?_)
                  | (refine mix_skip (by rfl) ?_; (try simp only [Act.put, List.setIfInBounds_toArray, List.set_cons_zero, List.set_cons_succ]))
                  | (refine mix_mk rfl (by rfl) (fun K hK => ?_); (first | (go_simp; first | (go_at_call 24; refine (sPlcEdge_h m _ _ _ _ (by assumption)).mono ?_; rintro e w' ⟨rfl, t, rfl⟩) | skip)); (show K _ _); refine hK _ _ (show Ext _ _ from (by ((try simp only [ext_drew]); (try simp only [ext_ext]); repeat (first | exact Ext.refl _ | with_reducible apply Ext.add | with_reducible apply Ext.dr | apply Ext.alloc | apply Ext.ext | apply Ext.drew | refine Ext.trans ?_ (by assumption))))) ?_; clear hK K; (try simp only [Act.put, List.setIfInBounds_toArray, List.set_cons_zero, List.set_cons_succ])))
                refine mix_nil ?_)
              | (
                with_reducible refine wp_region_ext (by kernel_rfl) (by kernel_rfl) ?_
                repeat (first | go_big_quiet_skip | (go_big_quiet_want; go_big_quiet_op; first | go_big_quiet_on | (apply Exists.intro; refine ⟨fun _ => ?_, ?_⟩; ((first | (go_at_call 24; first | exact quiet_call (sPlcEdge_h m _ _ _ _ (by assumption)) | exact quiet_call2 (sPlcEdge_h m _ _ _ _ (by assumption))))); (try rw [h1]); (try rw [h2]); (try rw [h3]); (try rw [h4]); (try rw [p1]); (try rw [p2]); (try rw [p3]); (try rw [p4]); (try rw [r1]); (try rw [r2]); (try rw [r3]); (try rw [r4]); (try rw [r5]); (try rw [r6]); (try rw [q3]); (try rw [q4]); (try rw [hp]); (try rw [hq]); go_big_quiet_on)))
                refine wpQuiet_nil ?_
                rintro _ ⟨tq, rfl⟩))
          go_roundw
          case rel => exact ⟨k + 1, by omega, by go_num, by rw [HF.out]; exact (by repeat (first | with_reducible apply ownsRow_alloc | exact HG.out | with_reducible apply ownsRow_drew | with_reducible apply ownsRow_ext)), (by ((try simp only [ext_drew]); (try simp only [ext_ext]); repeat (first | exact Ext.refl _ | with_reducible apply Ext.add | with_reducible apply Ext.dr | apply Ext.alloc | apply Ext.ext | apply Ext.drew | refine Ext.trans ?_ (by assumption))))⟩
          case measure => simp [intOf]; omega
        | true =>
          have HP := hid hp
          have HF := hid (fm_yes (p := edgeW m s) (gstW x) HK.out (by simp [edgeW, hp]))
          clear hp
          go_wp2_with (first | (go_at_call 24; refine (sPlcEdge_h m _ _ _ _ (by assumption)).mono ?_; rintro e w' ⟨rfl, t, rfl⟩) | ((refine wpList_app_Gst (w0 := W2) (xs := ((ws.take k).filter (edgeW m s)).map (gstW x)) rfl _ _ rfl rfl (by ((try simp only [ext_drew]); (try simp only [ext_ext]); repeat (first | exact Ext.refl _ | with_reducible apply Ext.add | with_reducible apply Ext.dr | apply Ext.alloc | apply Ext.ext | apply Ext.drew | refine Ext.trans ?_ (by assumption)))) (by repeat (first | with_reducible apply ownsRow_alloc | exact HG.out | with_reducible apply ownsRow_drew | with_reducible apply ownsRow_ext)) (gstW x y) rfl (alloc_last (by simp [go_sem])) (by omega) ?_); intro v' t' hg; have HG' := hid hg; clear hg))
          go_roundw
          case rel => exact ⟨k + 1, by omega, by go_num, by rw [HF.out]; exact HG'.out, (by ((try simp only [ext_drew]); (try simp only [ext_ext]); repeat (first | exact Ext.refl _ | with_reducible apply Ext.add | with_reducible apply Ext.dr | apply Ext.alloc | apply Ext.ext | apply Ext.drew | refine Ext.trans ?_ (by assumption))))⟩
          case measure => simp [intOf]; omega
      · have HE := hid (show ws.take k = ws from List.take_of_length_le (by rw [← H2.out.len]; omega))
        try go_wp2_with (first
            | fail
            | (
              with_reducible refine wp_region_mix (by kernel_rfl) (by decide +kernel) ?_
              repeat (first
                | (refine mix_pure rfl ?_; (first | go_big_quiet_skip | (go_big_quiet_want; go_big_quiet_op; go_big_quiet_on)); refine wpQuiet_nil ?_)
                | (refine mix_skip (by rfl) ?_; (try simp only [Act.put, List.setIfInBounds_toArray, List.set_cons_zero, List.set_cons_succ]))
                | (refine mix_mk rfl (by rfl) (fun K hK => ?_); (first | (go_simp; first | skip)); (show K _ _); refine hK _ _ (show Ext _ _ from (by ((try simp only [ext_drew]); (try simp only [ext_ext]); repeat (first | exact Ext.refl _ | with_reducible apply Ext.add | with_reducible apply Ext.dr | apply Ext.alloc | apply Ext.ext | apply Ext.drew | refine Ext.trans ?_ (by assumption))))) ?_; clear hK K; (try simp only [Act.put, List.setIfInBounds_toArray, List.set_cons_zero, List.set_cons_succ])))
              refine mix_nil ?_)
            | (
              with_reducible refine wp_region_ext (by kernel_rfl) (by kernel_rfl) ?_
              repeat (first | go_big_quiet_skip | (go_big_quiet_want; go_big_quiet_op; first | go_big_quiet_on | (apply Exists.intro; refine ⟨fun _ => ?_, ?_⟩; (fail); (try rw [h1]); (try rw [h2]); (try rw [h3]); (try rw [h4]); (try rw [p1]); (try rw [p2]); (try rw [p3]); (try rw [p4]); (try rw [r1]); (try rw [r2]); (try rw [r3]); (try rw [r4]); (try rw [r5]); (try rw [r6]); (try rw [q3]); (try rw [q4]); (try rw [hp]); (try rw [hq]); go_big_quiet_on)))
              refine wpQuiet_nil ?_
              rintro _ ⟨tq, rfl⟩))
        go_ret
        rw [HE.out] at HG
        have hfin := (MadeL.mk_row (k := 7) rfl (fun w x => own_Gst_mk w x) (fun _ => rfl) (by ((try simp only [ext_drew]); (try simp only [ext_ext]); repeat (first | exact Ext.refl _ | with_reducible apply Ext.add | with_reducible apply Ext.dr | apply Ext.alloc | apply Ext.ext | apply Ext.drew | refine Ext.trans ?_ (by assumption)))) (by have := fm_len (edgeW m s) (gstW x) ws n; rw [List.take_of_length_le (by rw [← H2.out.len]; omega)] at this; omega) HG.out).from HW2.out
        rw [← HWS.out] at hfin
        exact hfin
end Go.Proofs.Ytdogknbkcididaa
