/- Packed texts: CllIn, GapT, SSm, TCllM, LCllB -/
import Derived.Test.YtablgohncilmfaaZI3
import Derived.Test.YtablgohncilmfaaZI1
import Derived.Test.YtablgohncilmfaaZI2
namespace Go.Proofs.Ytablgohncilmfaa
open Go.RowKit
set_option linter.unusedSimpArgs false
set_option linter.unusedVariables false

def cinB (m : Mp) (c : Cll) (s : Int) (p : Pcl) : Bool := cllOk m c && pclOk m p && !(plcSide m c.cell s == -1)
def cinV (m : Mp) (c : Cll) (s : Int) (p : Pcl) : Cll := bif cinB m c s p then (iIn m c s p).1 else cllZ
def cinT (m : Mp) (c : Cll) (s : Int) (p : Pcl) : Bool := bif cinB m c s p then (iIn m c s p).2 else false
set_option maxRecDepth 100000 in
set_option maxHeartbeats 8000000 in
theorem iCllIn_c (m : Mp) (c : Cll) (h : CllH) (s : Int) (p : Pcl) (w : World) (hx : ReC w c h) (hb : BdC c) :
    Calls Try.prog 18 #[.agg #[.int .i64 m.c, .int .i64 m.w], .agg #[.int .i64 c.cell, .slice h.a1 c.wk.length h.c1, .int .i64 c.ground, .slice h.a3 c.outs.length h.c3, .slice h.a4 c.next.length h.c4, .slice h.a5 c.ins.length h.c5], .int .i64 s, .agg #[.int .i64 p.n, .int .i64 p.kind, .int .i64 p.wk.id, .int .i64 p.wk.at_, .int .i64 p.wk.coins, .int .i64 p.wk.seq, .int .i64 p.wk.last, .int .i64 p.coins]] w (MadeCV w (cinV m c s p) (.bool (cinT m c s p))) := by
  have HX := hid hx
  have HB := hid hb
  clear hx hb
  cases q1 : cllOk m c with
  | false =>
    have hbad : cinB m c s p = false := by simp [cinB, q1]
    have E1 := hid (show cinV m c s p = cllZ by simp [cinV, hbad])
    have E2 := hid (show cinT m c s p = false by simp [cinT, hbad])
    clear hbad
    go_enter Try.func18, Try.ntmps18
    try go_wp2_with (first
        | (go_at_call 31; refine (iCllOk_c _ _ _ _ (ReC.of (Hid.out (by assumption)) zq0) (Hid.out (by assumption))).mono ?_; rintro e w' ⟨rfl, t, rfl⟩) | (go_at_call 52; refine (iPclOk_c _ _ _).mono ?_; rintro e w' ⟨rfl, t, rfl⟩) | (go_at_call 53; refine (iPlcSide_c _ _ _ _).mono ?_; rintro e w' ⟨rfl, t, rfl⟩)
        | (
          with_reducible refine wp_region_mix (by kernel_rfl) (by decide +kernel) ?_
          repeat (first
            | (refine mix_pure rfl ?_; (first | go_big_quiet_skip | (go_big_quiet_want; go_big_quiet_op; go_big_quiet_on)); refine wpQuiet_nil ?_)
            | (refine mix_skip (by rfl) ?_; (try simp only [Act.put, List.setIfInBounds_toArray, List.set_cons_zero, List.set_cons_succ]))
            | (refine mix_mk rfl (by rfl) (fun K hK => ?_); (first | (go_simp; first | (go_at_call 31; refine (iCllOk_c _ _ _ _ (ReC.of (Hid.out (by assumption)) zq0) (Hid.out (by assumption))).mono ?_; rintro e w' ⟨rfl, t, rfl⟩) | (go_at_call 52; refine (iPclOk_c _ _ _).mono ?_; rintro e w' ⟨rfl, t, rfl⟩) | (go_at_call 53; refine (iPlcSide_c _ _ _ _).mono ?_; rintro e w' ⟨rfl, t, rfl⟩) | skip)); (show K _ _); refine hK _ _ (show Ext _ _ from zq0) ?_; clear hK K; (try simp only [Act.put, List.setIfInBounds_toArray, List.set_cons_zero, List.set_cons_succ])))
          refine mix_nil ?_)
        | (
          with_reducible refine wp_region_ext (by kernel_rfl) (by kernel_rfl) ?_
          repeat (first | go_big_quiet_skip | (go_big_quiet_want; go_big_quiet_op; first | go_big_quiet_on | (apply Exists.intro; refine ⟨fun _ => ?_, ?_⟩; ((first | (go_at_call 31; first | exact quiet_call (iCllOk_c _ _ _ _ (ReC.of (Hid.out (by assumption)) zq0) (Hid.out (by assumption))) | exact quiet_call2 (iCllOk_c _ _ _ _ (ReC.of (Hid.out (by assumption)) zq0) (Hid.out (by assumption)))) | (go_at_call 52; first | exact quiet_call (iPclOk_c _ _ _) | exact quiet_call2 (iPclOk_c _ _ _)) | (go_at_call 53; first | exact quiet_call (iPlcSide_c _ _ _ _) | exact quiet_call2 (iPlcSide_c _ _ _ _)))); (try rw [h1]); (try rw [h2]); (try rw [h3]); (try rw [h4]); (try rw [p1]); (try rw [p2]); (try rw [p3]); (try rw [p4]); (try rw [r1]); (try rw [r2]); (try rw [r3]); (try rw [r4]); (try rw [r5]); (try rw [r6]); (try rw [q3]); (try rw [q4]); (try rw [hp]); (try rw [hq]); go_big_quiet_on)))
          refine wpQuiet_nil ?_
          rintro _ ⟨tq, rfl⟩))
    refine bodyPost_ret (v := .tuple #[.agg #[.int .i64 0, .slice none 0 0, .int .i64 0, .slice none 0 0, .slice none 0 0, .slice none 0 0], .bool false]) (by simp [results, Try.results18, go_sem]) rfl ?_
    rw [E1.out, E2.out]
    exact ⟨⟨none, 0, none, 0, none, 0, none, 0⟩, rfl, zq0, Nat.le_refl _, [], by simp, by simp, ownL_nil_cll _⟩
  | true =>
   cases q2 : pclOk m p with
   | false =>
    have hbad : cinB m c s p = false := by simp [cinB, q2]
    have E1 := hid (show cinV m c s p = cllZ by simp [cinV, hbad])
    have E2 := hid (show cinT m c s p = false by simp [cinT, hbad])
    clear hbad
    go_enter Try.func18, Try.ntmps18
    try go_wp2_with (first
        | (go_at_call 31; refine (iCllOk_c _ _ _ _ (ReC.of (Hid.out (by assumption)) zq0) (Hid.out (by assumption))).mono ?_; rintro e w' ⟨rfl, t, rfl⟩) | (go_at_call 52; refine (iPclOk_c _ _ _).mono ?_; rintro e w' ⟨rfl, t, rfl⟩) | (go_at_call 53; refine (iPlcSide_c _ _ _ _).mono ?_; rintro e w' ⟨rfl, t, rfl⟩)
        | (
          with_reducible refine wp_region_mix (by kernel_rfl) (by decide +kernel) ?_
          repeat (first
            | (refine mix_pure rfl ?_; (first | go_big_quiet_skip | (go_big_quiet_want; go_big_quiet_op; go_big_quiet_on)); refine wpQuiet_nil ?_)
            | (refine mix_skip (by rfl) ?_; (try simp only [Act.put, List.setIfInBounds_toArray, List.set_cons_zero, List.set_cons_succ]))
            | (refine mix_mk rfl (by rfl) (fun K hK => ?_); (first | (go_simp; first | (go_at_call 31; refine (iCllOk_c _ _ _ _ (ReC.of (Hid.out (by assumption)) zq0) (Hid.out (by assumption))).mono ?_; rintro e w' ⟨rfl, t, rfl⟩) | (go_at_call 52; refine (iPclOk_c _ _ _).mono ?_; rintro e w' ⟨rfl, t, rfl⟩) | (go_at_call 53; refine (iPlcSide_c _ _ _ _).mono ?_; rintro e w' ⟨rfl, t, rfl⟩) | skip)); (show K _ _); refine hK _ _ (show Ext _ _ from zq0) ?_; clear hK K; (try simp only [Act.put, List.setIfInBounds_toArray, List.set_cons_zero, List.set_cons_succ])))
          refine mix_nil ?_)
        | (
          with_reducible refine wp_region_ext (by kernel_rfl) (by kernel_rfl) ?_
          repeat (first | go_big_quiet_skip | (go_big_quiet_want; go_big_quiet_op; first | go_big_quiet_on | (apply Exists.intro; refine ⟨fun _ => ?_, ?_⟩; ((first | (go_at_call 31; first | exact quiet_call (iCllOk_c _ _ _ _ (ReC.of (Hid.out (by assumption)) zq0) (Hid.out (by assumption))) | exact quiet_call2 (iCllOk_c _ _ _ _ (ReC.of (Hid.out (by assumption)) zq0) (Hid.out (by assumption)))) | (go_at_call 52; first | exact quiet_call (iPclOk_c _ _ _) | exact quiet_call2 (iPclOk_c _ _ _)) | (go_at_call 53; first | exact quiet_call (iPlcSide_c _ _ _ _) | exact quiet_call2 (iPlcSide_c _ _ _ _)))); (try rw [h1]); (try rw [h2]); (try rw [h3]); (try rw [h4]); (try rw [p1]); (try rw [p2]); (try rw [p3]); (try rw [p4]); (try rw [r1]); (try rw [r2]); (try rw [r3]); (try rw [r4]); (try rw [r5]); (try rw [r6]); (try rw [q3]); (try rw [q4]); (try rw [hp]); (try rw [hq]); go_big_quiet_on)))
          refine wpQuiet_nil ?_
          rintro _ ⟨tq, rfl⟩))
    refine bodyPost_ret (v := .tuple #[.agg #[.int .i64 0, .slice none 0 0, .int .i64 0, .slice none 0 0, .slice none 0 0, .slice none 0 0], .bool false]) (by simp [results, Try.results18, go_sem]) rfl ?_
    rw [E1.out, E2.out]
    exact ⟨⟨none, 0, none, 0, none, 0, none, 0⟩, rfl, zq0, Nat.le_refl _, [], by simp, by simp, ownL_nil_cll _⟩
   | true =>
    cases q3 : (plcSide m c.cell s == -1) with
    | true =>
      have hbad : cinB m c s p = false := by simp [cinB, q3]
      have q3' : plcSide m c.cell s = -1 := by simpa using q3
      have E1 := hid (show cinV m c s p = cllZ by simp [cinV, hbad])
      have E2 := hid (show cinT m c s p = false by simp [cinT, hbad])
      clear hbad
      go_enter Try.func18, Try.ntmps18
      try go_wp2_with (first
          | (go_at_call 31; refine (iCllOk_c _ _ _ _ (ReC.of (Hid.out (by assumption)) zq0) (Hid.out (by assumption))).mono ?_; rintro e w' ⟨rfl, t, rfl⟩) | (go_at_call 52; refine (iPclOk_c _ _ _).mono ?_; rintro e w' ⟨rfl, t, rfl⟩) | (go_at_call 53; refine (iPlcSide_c _ _ _ _).mono ?_; rintro e w' ⟨rfl, t, rfl⟩)
          | (
            with_reducible refine wp_region_mix (by kernel_rfl) (by decide +kernel) ?_
            repeat (first
              | (refine mix_pure rfl ?_; (first | go_big_quiet_skip | (go_big_quiet_want; go_big_quiet_op; go_big_quiet_on)); refine wpQuiet_nil ?_)
              | (refine mix_skip (by rfl) ?_; (try simp only [Act.put, List.setIfInBounds_toArray, List.set_cons_zero, List.set_cons_succ]))
              | (refine mix_mk rfl (by rfl) (fun K hK => ?_); (first | (go_simp; first | (go_at_call 31; refine (iCllOk_c _ _ _ _ (ReC.of (Hid.out (by assumption)) zq0) (Hid.out (by assumption))).mono ?_; rintro e w' ⟨rfl, t, rfl⟩) | (go_at_call 52; refine (iPclOk_c _ _ _).mono ?_; rintro e w' ⟨rfl, t, rfl⟩) | (go_at_call 53; refine (iPlcSide_c _ _ _ _).mono ?_; rintro e w' ⟨rfl, t, rfl⟩) | skip)); (show K _ _); refine hK _ _ (show Ext _ _ from zq0) ?_; clear hK K; (try simp only [Act.put, List.setIfInBounds_toArray, List.set_cons_zero, List.set_cons_succ])))
            refine mix_nil ?_)
          | (
            with_reducible refine wp_region_ext (by kernel_rfl) (by kernel_rfl) ?_
            repeat (first | go_big_quiet_skip | (go_big_quiet_want; go_big_quiet_op; first | go_big_quiet_on | (apply Exists.intro; refine ⟨fun _ => ?_, ?_⟩; ((first | (go_at_call 31; first | exact quiet_call (iCllOk_c _ _ _ _ (ReC.of (Hid.out (by assumption)) zq0) (Hid.out (by assumption))) | exact quiet_call2 (iCllOk_c _ _ _ _ (ReC.of (Hid.out (by assumption)) zq0) (Hid.out (by assumption)))) | (go_at_call 52; first | exact quiet_call (iPclOk_c _ _ _) | exact quiet_call2 (iPclOk_c _ _ _)) | (go_at_call 53; first | exact quiet_call (iPlcSide_c _ _ _ _) | exact quiet_call2 (iPlcSide_c _ _ _ _)))); (try rw [h1]); (try rw [h2]); (try rw [h3]); (try rw [h4]); (try rw [p1]); (try rw [p2]); (try rw [p3]); (try rw [p4]); (try rw [r1]); (try rw [r2]); (try rw [r3]); (try rw [r4]); (try rw [r5]); (try rw [r6]); (try rw [q3]); (try rw [q4]); (try rw [hp]); (try rw [hq]); go_big_quiet_on)))
            refine wpQuiet_nil ?_
            rintro _ ⟨tq, rfl⟩))
      refine bodyPost_ret (v := .tuple #[.agg #[.int .i64 0, .slice none 0 0, .int .i64 0, .slice none 0 0, .slice none 0 0, .slice none 0 0], .bool false]) (by simp [results, Try.results18, go_sem]) rfl ?_
      rw [E1.out, E2.out]
      exact ⟨⟨none, 0, none, 0, none, 0, none, 0⟩, rfl, zq0, Nat.le_refl _, [], by simp, by simp, ownL_nil_cll _⟩
    | false =>
      have hok : cinB m c s p = true := by simp [cinB, q1, q2, q3]
      have hne : plcSide m c.cell s ≠ -1 := by simpa using q3
      obtain ⟨_, _, _, s0, s1, _⟩ := plcSide_ne hne
      obtain ⟨k, rfl⟩ : ∃ k : Nat, s = k := ⟨s.toNat, by omega⟩
      have hk2 : k < 2 := by omega
      have HE := hid (show cinV m c k p = (iIn m c k p).1 ∧ cinT m c k p = (iIn m c k p).2 by simp [cinV, cinT, hok])
      have HOK := hid q1
      have HOO := hid q2
      have HF2 := hid (in_ok (cllF_iff.1 q1) q2 hne)
      clear hok hne
      go_enter Try.func18, Try.ntmps18
      try go_wp2_with (first
          | (go_at_call 31; (with_reducible refine (iCllOk_c _ _ _ _ (ReC.of HX.out zq0) HB.out).mono ?_); rintro e w' ⟨rfl, ta, rfl⟩) | (go_at_call 52; (with_reducible refine (iPclOk_c _ _ _).mono ?_); rintro e w' ⟨rfl, tb, rfl⟩) | (go_at_call 53; (with_reducible refine (iPlcSide_c _ _ _ _).mono ?_); rintro e w' ⟨rfl, tc, rfl⟩) | (go_at_call 54; (with_reducible refine (iCllCopy_x c _ _ (ReC.of HX.out zq0) HB.out).mono ?_); rintro e w' ⟨⟨p1, r1, p3, r3, p4, r4, p5, r5⟩, B1, B3, B4, B5, rfl, ⟨t, rfl⟩, hcx, hlo⟩; have HCX := hid hcx; have HLO := hid hlo; clear hcx hlo)
          | (
            with_reducible refine wp_region_mix (by kernel_rfl) (by decide +kernel) ?_
            repeat (first
              | (refine mix_pure rfl ?_; (first | go_big_quiet_skip | (go_big_quiet_want; go_big_quiet_op; go_big_quiet_on)); refine wpQuiet_nil ?_)
              | (refine mix_skip (by rfl) ?_; (try simp only [Act.put, List.setIfInBounds_toArray, List.set_cons_zero, List.set_cons_succ]))
              | (refine mix_mk rfl (by rfl) (fun K hK => ?_); (first | (go_simp; first | (go_at_call 31; (with_reducible refine (iCllOk_c _ _ _ _ (ReC.of HX.out zq0) HB.out).mono ?_); rintro e w' ⟨rfl, ta, rfl⟩) | (go_at_call 52; (with_reducible refine (iPclOk_c _ _ _).mono ?_); rintro e w' ⟨rfl, tb, rfl⟩) | (go_at_call 53; (with_reducible refine (iPlcSide_c _ _ _ _).mono ?_); rintro e w' ⟨rfl, tc, rfl⟩) | (go_at_call 54; (with_reducible refine (iCllCopy_x c _ _ (ReC.of HX.out zq0) HB.out).mono ?_); rintro e w' ⟨⟨p1, r1, p3, r3, p4, r4, p5, r5⟩, B1, B3, B4, B5, rfl, ⟨t, rfl⟩, hcx, hlo⟩; have HCX := hid hcx; have HLO := hid hlo; clear hcx hlo) | skip)); (show K _ _); refine hK _ _ (show Ext _ _ from zq0) ?_; clear hK K; (try simp only [Act.put, List.setIfInBounds_toArray, List.set_cons_zero, List.set_cons_succ])))
            refine mix_nil ?_)
          | (
            with_reducible refine wp_region_ext (by kernel_rfl) (by kernel_rfl) ?_
            repeat (first | go_big_quiet_skip | (go_big_quiet_want; go_big_quiet_op; first | go_big_quiet_on | (apply Exists.intro; refine ⟨fun _ => ?_, ?_⟩; (fail); (try rw [h1]); (try rw [h2]); (try rw [h3]); (try rw [h4]); (try rw [p1]); (try rw [p2]); (try rw [p3]); (try rw [p4]); (try rw [r1]); (try rw [r2]); (try rw [r3]); (try rw [r4]); (try rw [r5]); (try rw [r6]); (try rw [q3]); (try rw [q4]); (try rw [hp]); (try rw [hq]); go_big_quiet_on)))
            refine wpQuiet_nil ?_
            rintro _ ⟨tq, rfl⟩))
      refine calls_gen fun Y hY => ?_
      generalize hTe : w.heap.size + 1 + 1 + 1 + 1 + (((ta.add tb).add tc).add t).bs.size = T
      have EY : Ext w Y := by rw [hY]; ((try simp only [ext_drew]); (try simp only [ext_ext]); repeat (first | exact Ext.refl _ | with_reducible apply Ext.add | with_reducible apply Ext.dr | apply Ext.alloc | apply Ext.ext | apply Ext.drew | refine Ext.trans ?_ (by assumption)))
      have hT : Y.heap[T]? = some (.cells #[.int .i64 c.cell, .slice p1 c.wk.length r1, .int .i64 c.ground, .slice p3 c.outs.length r3, .slice p4 c.next.length r4, .slice p5 c.ins.length r5] 37 (0, 0)) := by rw [hY]; exact alloc_last (by rw [← hTe]; ((try simp [go_sem]) <;> (try simp [Xt.add]) <;> omega))
      have hR : Y.heap[w.heap.size + 1 + 1 + 1]? = some (.cells #[.int .i64 0, .slice none 0 0, .int .i64 0, .slice none 0 0, .slice none 0 0, .slice none 0 0] 37 (0, 0)) := by rw [hY]; exact blk_alloc (blk_ext (alloc_last (by simp)))
      have HCY := hid (show CX Y c ⟨p1, r1, p3, r3, p4, r4, p5, r5⟩ B1 B3 B4 B5 by rw [hY]; exact HCX.out.of zq0)
      have HTB := hid (show ∀ b ∈ B1 ++ (B3 ++ (B4 ++ B5)), b < T from fun b hb => Nat.lt_of_lt_of_le (HCX.out.lt b hb) (by rw [← hTe]; ((try simp [go_sem]) <;> (try simp [Xt.add]) <;> omega)))
      have HLY := hid (show ∀ b ∈ B1 ++ (B3 ++ (B4 ++ B5)), w.heap.size + 4 ≤ b from fun b hb => Nat.le_trans zq1 (HLO.out b hb))
      have hTw : w.heap.size + 1 + 1 + 1 < T := by omega
      clear hY hTe HCX HLO
      have hTB3 : T ∉ B1 ++ (B3 ++ (B4 ++ B5)) := fun hm => by have := HTB.out T hm; omega
      refine (receive_c m c ⟨p1, r1, p3, r3, p4, r4, p5, r5⟩ T k p B1 B3 B4 B5 Y hT HCY.out hTB3 (cllF_iff.1 HOK.out) HOO.out hk2).mono ?_
      obtain ⟨v, hv⟩ : ∃ v, (iIn m c k p).1 = v := ⟨_, rfl⟩
      obtain ⟨q, hq⟩ : ∃ q, (iIn m c k p).2 = q := ⟨_, rfl⟩
      rw [hv, hq]
      have HV := hid hv
      have HQ := hid hq
      have HBV := hid (show BdC v by rw [← hv]; exact HF2.out.bd)
      rintro e Y2 ⟨⟨u1, s1, u3, s3, u4, s4, u5, s5⟩, D1, rfl, hT2, hcx, hch, hb3⟩
      have hRn : w.heap.size + 1 + 1 + 1 ∉ T :: (B1 ++ B5) := fun hm => by
        rcases List.mem_cons.1 hm with e | hm
        · omega
        · have := HLY.out _ (show w.heap.size + 1 + 1 + 1 ∈ B1 ++ (B3 ++ (B4 ++ B5)) by simp only [List.mem_append] at hm ⊢; rcases hm with h | h <;> simp [h]); omega
      have hR2 := (hch.block _ (lt_blk hR) hRn).trans hR
      have EY2 : Ext w Y2 := Ext.of_below (Below.chg (w0 := w) EY.below hch (fun b hb => by
        rcases List.mem_cons.1 hb with e | hb
        · omega
        · have := HLY.out b (by simp only [List.mem_append] at hb ⊢; rcases hb with h | h <;> simp [h]); omega))
      have HCV := hid hcx
      have cT0 : Y2.cell? ⟨T, 0, none⟩ = some (.int .i64 v.cell) := (cell_blk hT2 0).trans rfl
      have cR0 : Y2.cell? ⟨w.heap.size + 1 + 1 + 1, 0, none⟩ = some (.int .i64 0) := (cell_blk hR2 0).trans rfl
      have zR0 := frozen_blk hR2 0
      have cT1 : Y2.cell? ⟨T, 1, none⟩ = some (.slice u1 v.wk.length s1) := (cell_blk hT2 1).trans rfl
      have cR1 : Y2.cell? ⟨w.heap.size + 1 + 1 + 1, 1, none⟩ = some (.slice none 0 0) := (cell_blk hR2 1).trans rfl
      have zR1 := frozen_blk hR2 1
      have cT2 : Y2.cell? ⟨T, 2, none⟩ = some (.int .i64 v.ground) := (cell_blk hT2 2).trans rfl
      have cR2 : Y2.cell? ⟨w.heap.size + 1 + 1 + 1, 2, none⟩ = some (.int .i64 0) := (cell_blk hR2 2).trans rfl
      have zR2 := frozen_blk hR2 2
      have cT3 : Y2.cell? ⟨T, 3, none⟩ = some (.slice u3 v.outs.length s3) := (cell_blk hT2 3).trans rfl
      have cR3 : Y2.cell? ⟨w.heap.size + 1 + 1 + 1, 3, none⟩ = some (.slice none 0 0) := (cell_blk hR2 3).trans rfl
      have zR3 := frozen_blk hR2 3
      have cT4 : Y2.cell? ⟨T, 4, none⟩ = some (.slice u4 v.next.length s4) := (cell_blk hT2 4).trans rfl
      have cR4 : Y2.cell? ⟨w.heap.size + 1 + 1 + 1, 4, none⟩ = some (.slice none 0 0) := (cell_blk hR2 4).trans rfl
      have zR4 := frozen_blk hR2 4
      have cT5 : Y2.cell? ⟨T, 5, none⟩ = some (.slice u5 v.ins.length s5) := (cell_blk hT2 5).trans rfl
      have cR5 : Y2.cell? ⟨w.heap.size + 1 + 1 + 1, 5, none⟩ = some (.slice none 0 0) := (cell_blk hR2 5).trans rfl
      have zR5 := frozen_blk hR2 5
      have lT2 := lt_blk hT2
      have lR2 := lt_blk hR2
      clear hT2 hR2 hT hR hcx hch hb3 HCY hv hq EY hRn hTB3
      try go_wp2_with (first
          | (go_at_call 54; (with_reducible refine (iCllCopy_x v ⟨u1, s1, u3, s3, u4, s4, u5, s5⟩ _ (ReC.of HCV.out.re zq0) HBV.out).mono ?_); rintro e w' ⟨⟨n1, m1, n3, m3, n4, m4, n5, m5⟩, E1, E3, E4, E5, rfl, ⟨t9, rfl⟩, hd, hl⟩; have HD := hid hd; have HL := hid hl; clear hd hl)
          | (
            with_reducible refine wp_region_mix (by kernel_rfl) (by decide +kernel) ?_
            repeat (first
              | (refine mix_pure rfl ?_; (first | go_big_quiet_skip | (go_big_quiet_want; go_big_quiet_op; go_big_quiet_on)); refine wpQuiet_nil ?_)
              | (refine mix_skip (by rfl) ?_; (try simp only [Act.put, List.setIfInBounds_toArray, List.set_cons_zero, List.set_cons_succ]))
              | (refine mix_mk rfl (by rfl) (fun K hK => ?_); (first | (go_simp; first | (go_at_call 54; (with_reducible refine (iCllCopy_x v ⟨u1, s1, u3, s3, u4, s4, u5, s5⟩ _ (ReC.of HCV.out.re zq0) HBV.out).mono ?_); rintro e w' ⟨⟨n1, m1, n3, m3, n4, m4, n5, m5⟩, E1, E3, E4, E5, rfl, ⟨t9, rfl⟩, hd, hl⟩; have HD := hid hd; have HL := hid hl; clear hd hl) | skip)); (show K _ _); refine hK _ _ (show Ext _ _ from zq0) ?_; clear hK K; (try simp only [Act.put, List.setIfInBounds_toArray, List.set_cons_zero, List.set_cons_succ])))
            refine mix_nil ?_)
          | (
            with_reducible refine wp_region_ext (by kernel_rfl) (by kernel_rfl) ?_
            repeat (first | go_big_quiet_skip | (go_big_quiet_want; go_big_quiet_op; first | go_big_quiet_on | (apply Exists.intro; refine ⟨fun _ => ?_, ?_⟩; (fail); (try rw [h1]); (try rw [h2]); (try rw [h3]); (try rw [h4]); (try rw [p1]); (try rw [p2]); (try rw [p3]); (try rw [p4]); (try rw [r1]); (try rw [r2]); (try rw [r3]); (try rw [r4]); (try rw [r5]); (try rw [r6]); (try rw [q3]); (try rw [q4]); (try rw [hp]); (try rw [hq]); go_big_quiet_on)))
            refine wpQuiet_nil ?_
            rintro _ ⟨tq, rfl⟩))
      refine bodyPost_ret (v := .tuple #[.agg #[.int .i64 v.cell, .slice n1 v.wk.length m1, .int .i64 v.ground, .slice n3 v.outs.length m3, .slice n4 v.next.length m4, .slice n5 v.ins.length m5], .bool q]) (by simp [results, Try.results18, go_sem, cR0, cR1, cR2, cR3, cR4, cR5, lR2]) rfl ?_
      rw [HE.out.1, HE.out.2, HV.out, HQ.out]
      have hdl : ∀ b ∈ E1 ++ (E3 ++ (E4 ++ E5)), w.heap.size + 1 + 1 + 1 < b := fun b hb => Nat.lt_of_lt_of_le lR2 (HL.out b hb)
      exact ⟨⟨n1, m1, n3, m3, n4, m4, n5, m5⟩, rfl, Ext.of_below (Below.chg (w0 := w) EY2.below (B := [w.heap.size + 1 + 1 + 1]) zq2 (by simp; omega)), (HD.out.fin HL.out zq0 (by simp)).own (fun b hb => by have := hdl b hb; omega)⟩
set_option maxRecDepth 100000 in
set_option maxHeartbeats 8000000 in
theorem sCllIn_c (m : Mp) (c : Cll) (h : CllH) (s : Int) (p : Pcl) (w : World) (hx : ReC w c h) (hb : BdC c) :
    Calls Try.prog 14 #[.agg #[.int .i64 m.c, .int .i64 m.w], .agg #[.int .i64 c.cell, .slice h.a1 c.wk.length h.c1, .int .i64 c.ground, .slice h.a3 c.outs.length h.c3, .slice h.a4 c.next.length h.c4, .slice h.a5 c.ins.length h.c5], .int .i64 s, .agg #[.int .i64 p.n, .int .i64 p.kind, .int .i64 p.wk.id, .int .i64 p.wk.at_, .int .i64 p.wk.coins, .int .i64 p.wk.seq, .int .i64 p.wk.last, .int .i64 p.coins]] w (MadeCV w (cinV m c s p) (.bool (cinT m c s p))) := by
  have HX := hid hx
  have HB := hid hb
  clear hx hb
  cases q1 : cllOk m c with
  | false =>
    have hbad : cinB m c s p = false := by simp [cinB, q1]
    have E1 := hid (show cinV m c s p = cllZ by simp [cinV, hbad])
    have E2 := hid (show cinT m c s p = false by simp [cinT, hbad])
    clear hbad
    go_enter Try.func14, Try.ntmps14
    try go_wp2_with (first
        | (go_at_call 33; refine (sCllOk_c _ _ _ _ (ReC.of (Hid.out (by assumption)) zq0) (Hid.out (by assumption))).mono ?_; rintro e w' ⟨rfl, t, rfl⟩) | (go_at_call 45; refine (sPclOk_c _ _ _).mono ?_; rintro e w' ⟨rfl, t, rfl⟩) | (go_at_call 46; refine (sPlcSide_c _ _ _ _).mono ?_; rintro e w' ⟨rfl, t, rfl⟩)
        | (
          with_reducible refine wp_region_mix (by kernel_rfl) (by decide +kernel) ?_
          repeat (first
            | (refine mix_pure rfl ?_; (first | go_big_quiet_skip | (go_big_quiet_want; go_big_quiet_op; go_big_quiet_on)); refine wpQuiet_nil ?_)
            | (refine mix_skip (by rfl) ?_; (try simp only [Act.put, List.setIfInBounds_toArray, List.set_cons_zero, List.set_cons_succ]))
            | (refine mix_mk rfl (by rfl) (fun K hK => ?_); (first | (go_simp; first | (go_at_call 33; refine (sCllOk_c _ _ _ _ (ReC.of (Hid.out (by assumption)) zq0) (Hid.out (by assumption))).mono ?_; rintro e w' ⟨rfl, t, rfl⟩) | (go_at_call 45; refine (sPclOk_c _ _ _).mono ?_; rintro e w' ⟨rfl, t, rfl⟩) | (go_at_call 46; refine (sPlcSide_c _ _ _ _).mono ?_; rintro e w' ⟨rfl, t, rfl⟩) | skip)); (show K _ _); refine hK _ _ (show Ext _ _ from zq0) ?_; clear hK K; (try simp only [Act.put, List.setIfInBounds_toArray, List.set_cons_zero, List.set_cons_succ])))
          refine mix_nil ?_)
        | (
          with_reducible refine wp_region_ext (by kernel_rfl) (by kernel_rfl) ?_
          repeat (first | go_big_quiet_skip | (go_big_quiet_want; go_big_quiet_op; first | go_big_quiet_on | (apply Exists.intro; refine ⟨fun _ => ?_, ?_⟩; ((first | (go_at_call 33; first | exact quiet_call (sCllOk_c _ _ _ _ (ReC.of (Hid.out (by assumption)) zq0) (Hid.out (by assumption))) | exact quiet_call2 (sCllOk_c _ _ _ _ (ReC.of (Hid.out (by assumption)) zq0) (Hid.out (by assumption)))) | (go_at_call 45; first | exact quiet_call (sPclOk_c _ _ _) | exact quiet_call2 (sPclOk_c _ _ _)) | (go_at_call 46; first | exact quiet_call (sPlcSide_c _ _ _ _) | exact quiet_call2 (sPlcSide_c _ _ _ _)))); (try rw [h1]); (try rw [h2]); (try rw [h3]); (try rw [h4]); (try rw [p1]); (try rw [p2]); (try rw [p3]); (try rw [p4]); (try rw [r1]); (try rw [r2]); (try rw [r3]); (try rw [r4]); (try rw [r5]); (try rw [r6]); (try rw [q3]); (try rw [q4]); (try rw [hp]); (try rw [hq]); go_big_quiet_on)))
          refine wpQuiet_nil ?_
          rintro _ ⟨tq, rfl⟩))
    refine bodyPost_ret (v := .tuple #[.agg #[.int .i64 0, .slice none 0 0, .int .i64 0, .slice none 0 0, .slice none 0 0, .slice none 0 0], .bool false]) (by simp [results, Try.results14, go_sem]) rfl ?_
    rw [E1.out, E2.out]
    exact ⟨⟨none, 0, none, 0, none, 0, none, 0⟩, rfl, zq0, Nat.le_refl _, [], by simp, by simp, ownL_nil_cll _⟩
  | true =>
   cases q2 : pclOk m p with
   | false =>
    have hbad : cinB m c s p = false := by simp [cinB, q2]
    have E1 := hid (show cinV m c s p = cllZ by simp [cinV, hbad])
    have E2 := hid (show cinT m c s p = false by simp [cinT, hbad])
    clear hbad
    go_enter Try.func14, Try.ntmps14
    try go_wp2_with (first
        | (go_at_call 33; refine (sCllOk_c _ _ _ _ (ReC.of (Hid.out (by assumption)) zq0) (Hid.out (by assumption))).mono ?_; rintro e w' ⟨rfl, t, rfl⟩) | (go_at_call 45; refine (sPclOk_c _ _ _).mono ?_; rintro e w' ⟨rfl, t, rfl⟩) | (go_at_call 46; refine (sPlcSide_c _ _ _ _).mono ?_; rintro e w' ⟨rfl, t, rfl⟩)
        | (
          with_reducible refine wp_region_mix (by kernel_rfl) (by decide +kernel) ?_
          repeat (first
            | (refine mix_pure rfl ?_; (first | go_big_quiet_skip | (go_big_quiet_want; go_big_quiet_op; go_big_quiet_on)); refine wpQuiet_nil ?_)
            | (refine mix_skip (by rfl) ?_; (try simp only [Act.put, List.setIfInBounds_toArray, List.set_cons_zero, List.set_cons_succ]))
            | (refine mix_mk rfl (by rfl) (fun K hK => ?_); (first | (go_simp; first | (go_at_call 33; refine (sCllOk_c _ _ _ _ (ReC.of (Hid.out (by assumption)) zq0) (Hid.out (by assumption))).mono ?_; rintro e w' ⟨rfl, t, rfl⟩) | (go_at_call 45; refine (sPclOk_c _ _ _).mono ?_; rintro e w' ⟨rfl, t, rfl⟩) | (go_at_call 46; refine (sPlcSide_c _ _ _ _).mono ?_; rintro e w' ⟨rfl, t, rfl⟩) | skip)); (show K _ _); refine hK _ _ (show Ext _ _ from zq0) ?_; clear hK K; (try simp only [Act.put, List.setIfInBounds_toArray, List.set_cons_zero, List.set_cons_succ])))
          refine mix_nil ?_)
        | (
          with_reducible refine wp_region_ext (by kernel_rfl) (by kernel_rfl) ?_
          repeat (first | go_big_quiet_skip | (go_big_quiet_want; go_big_quiet_op; first | go_big_quiet_on | (apply Exists.intro; refine ⟨fun _ => ?_, ?_⟩; ((first | (go_at_call 33; first | exact quiet_call (sCllOk_c _ _ _ _ (ReC.of (Hid.out (by assumption)) zq0) (Hid.out (by assumption))) | exact quiet_call2 (sCllOk_c _ _ _ _ (ReC.of (Hid.out (by assumption)) zq0) (Hid.out (by assumption)))) | (go_at_call 45; first | exact quiet_call (sPclOk_c _ _ _) | exact quiet_call2 (sPclOk_c _ _ _)) | (go_at_call 46; first | exact quiet_call (sPlcSide_c _ _ _ _) | exact quiet_call2 (sPlcSide_c _ _ _ _)))); (try rw [h1]); (try rw [h2]); (try rw [h3]); (try rw [h4]); (try rw [p1]); (try rw [p2]); (try rw [p3]); (try rw [p4]); (try rw [r1]); (try rw [r2]); (try rw [r3]); (try rw [r4]); (try rw [r5]); (try rw [r6]); (try rw [q3]); (try rw [q4]); (try rw [hp]); (try rw [hq]); go_big_quiet_on)))
          refine wpQuiet_nil ?_
          rintro _ ⟨tq, rfl⟩))
    refine bodyPost_ret (v := .tuple #[.agg #[.int .i64 0, .slice none 0 0, .int .i64 0, .slice none 0 0, .slice none 0 0, .slice none 0 0], .bool false]) (by simp [results, Try.results14, go_sem]) rfl ?_
    rw [E1.out, E2.out]
    exact ⟨⟨none, 0, none, 0, none, 0, none, 0⟩, rfl, zq0, Nat.le_refl _, [], by simp, by simp, ownL_nil_cll _⟩
   | true =>
    cases q3 : (plcSide m c.cell s == -1) with
    | true =>
      have hbad : cinB m c s p = false := by simp [cinB, q3]
      have q3' : plcSide m c.cell s = -1 := by simpa using q3
      have E1 := hid (show cinV m c s p = cllZ by simp [cinV, hbad])
      have E2 := hid (show cinT m c s p = false by simp [cinT, hbad])
      clear hbad
      go_enter Try.func14, Try.ntmps14
      try go_wp2_with (first
          | (go_at_call 33; refine (sCllOk_c _ _ _ _ (ReC.of (Hid.out (by assumption)) zq0) (Hid.out (by assumption))).mono ?_; rintro e w' ⟨rfl, t, rfl⟩) | (go_at_call 45; refine (sPclOk_c _ _ _).mono ?_; rintro e w' ⟨rfl, t, rfl⟩) | (go_at_call 46; refine (sPlcSide_c _ _ _ _).mono ?_; rintro e w' ⟨rfl, t, rfl⟩)
          | (
            with_reducible refine wp_region_mix (by kernel_rfl) (by decide +kernel) ?_
            repeat (first
              | (refine mix_pure rfl ?_; (first | go_big_quiet_skip | (go_big_quiet_want; go_big_quiet_op; go_big_quiet_on)); refine wpQuiet_nil ?_)
              | (refine mix_skip (by rfl) ?_; (try simp only [Act.put, List.setIfInBounds_toArray, List.set_cons_zero, List.set_cons_succ]))
              | (refine mix_mk rfl (by rfl) (fun K hK => ?_); (first | (go_simp; first | (go_at_call 33; refine (sCllOk_c _ _ _ _ (ReC.of (Hid.out (by assumption)) zq0) (Hid.out (by assumption))).mono ?_; rintro e w' ⟨rfl, t, rfl⟩) | (go_at_call 45; refine (sPclOk_c _ _ _).mono ?_; rintro e w' ⟨rfl, t, rfl⟩) | (go_at_call 46; refine (sPlcSide_c _ _ _ _).mono ?_; rintro e w' ⟨rfl, t, rfl⟩) | skip)); (show K _ _); refine hK _ _ (show Ext _ _ from zq0) ?_; clear hK K; (try simp only [Act.put, List.setIfInBounds_toArray, List.set_cons_zero, List.set_cons_succ])))
            refine mix_nil ?_)
          | (
            with_reducible refine wp_region_ext (by kernel_rfl) (by kernel_rfl) ?_
            repeat (first | go_big_quiet_skip | (go_big_quiet_want; go_big_quiet_op; first | go_big_quiet_on | (apply Exists.intro; refine ⟨fun _ => ?_, ?_⟩; ((first | (go_at_call 33; first | exact quiet_call (sCllOk_c _ _ _ _ (ReC.of (Hid.out (by assumption)) zq0) (Hid.out (by assumption))) | exact quiet_call2 (sCllOk_c _ _ _ _ (ReC.of (Hid.out (by assumption)) zq0) (Hid.out (by assumption)))) | (go_at_call 45; first | exact quiet_call (sPclOk_c _ _ _) | exact quiet_call2 (sPclOk_c _ _ _)) | (go_at_call 46; first | exact quiet_call (sPlcSide_c _ _ _ _) | exact quiet_call2 (sPlcSide_c _ _ _ _)))); (try rw [h1]); (try rw [h2]); (try rw [h3]); (try rw [h4]); (try rw [p1]); (try rw [p2]); (try rw [p3]); (try rw [p4]); (try rw [r1]); (try rw [r2]); (try rw [r3]); (try rw [r4]); (try rw [r5]); (try rw [r6]); (try rw [q3]); (try rw [q4]); (try rw [hp]); (try rw [hq]); go_big_quiet_on)))
            refine wpQuiet_nil ?_
            rintro _ ⟨tq, rfl⟩))
      refine bodyPost_ret (v := .tuple #[.agg #[.int .i64 0, .slice none 0 0, .int .i64 0, .slice none 0 0, .slice none 0 0, .slice none 0 0], .bool false]) (by simp [results, Try.results14, go_sem]) rfl ?_
      rw [E1.out, E2.out]
      exact ⟨⟨none, 0, none, 0, none, 0, none, 0⟩, rfl, zq0, Nat.le_refl _, [], by simp, by simp, ownL_nil_cll _⟩
    | false =>
      have hok : cinB m c s p = true := by simp [cinB, q1, q2, q3]
      have hne : plcSide m c.cell s ≠ -1 := by simpa using q3
      obtain ⟨_, _, _, s0, s1, _⟩ := plcSide_ne hne
      obtain ⟨k, rfl⟩ : ∃ k : Nat, s = k := ⟨s.toNat, by omega⟩
      have hk2 : k < 2 := by omega
      have HE := hid (show cinV m c k p = (iIn m c k p).1 ∧ cinT m c k p = (iIn m c k p).2 by simp [cinV, cinT, hok])
      obtain ⟨v, hv⟩ : ∃ v, (iIn m c k p).1 = v := ⟨_, rfl⟩
      obtain ⟨q, hq⟩ : ∃ q, (iIn m c k p).2 = q := ⟨_, rfl⟩
      have HV := hid hv
      have HQ := hid hq
      have HD := hid (fun (w : World) (hx : ReC w c h) => (show Calls Try.prog 47 #[.agg #[.int .i64 m.c, .int .i64 m.w], .agg #[.int .i64 c.cell, .slice h.a1 c.wk.length h.c1, .int .i64 c.ground, .slice h.a3 c.outs.length h.c3, .slice h.a4 c.next.length h.c4, .slice h.a5 c.ins.length h.c5], .int .i64 k, .agg #[.int .i64 p.n, .int .i64 p.kind, .int .i64 p.wk.id, .int .i64 p.wk.at_, .int .i64 p.wk.coins, .int .i64 p.wk.seq, .int .i64 p.wk.last, .int .i64 p.coins]] w (MadeCV w v (.bool q)) from by
        rw [← hv, ← hq]
        exact l5In_c m c h k p w hx HB.out (cllF_iff.1 q1) q2 hk2))
      clear hok hv hq hne
      go_enter Try.func14, Try.ntmps14
      try go_wp2_with (first
          | (go_at_call 33; refine (sCllOk_c _ _ _ _ (ReC.of (Hid.out (by assumption)) zq0) (Hid.out (by assumption))).mono ?_; rintro e w' ⟨rfl, t, rfl⟩) | (go_at_call 45; refine (sPclOk_c _ _ _).mono ?_; rintro e w' ⟨rfl, t, rfl⟩) | (go_at_call 46; refine (sPlcSide_c _ _ _ _).mono ?_; rintro e w' ⟨rfl, t, rfl⟩) | (go_at_call 47; (with_reducible refine (HD.out _ (ReC.of HX.out zq0)).mono ?_); rintro e w' ⟨⟨u1, s1, u3, s3, u4, s4, u5, s5⟩, rfl, ⟨t9, rfl⟩, ho9⟩; have HO9 := hid ho9; clear ho9)
          | (
            with_reducible refine wp_region_mix (by kernel_rfl) (by decide +kernel) ?_
            repeat (first
              | (refine mix_pure rfl ?_; (first | go_big_quiet_skip | (go_big_quiet_want; go_big_quiet_op; go_big_quiet_on)); refine wpQuiet_nil ?_)
              | (refine mix_skip (by rfl) ?_; (try simp only [Act.put, List.setIfInBounds_toArray, List.set_cons_zero, List.set_cons_succ]))
              | (refine mix_mk rfl (by rfl) (fun K hK => ?_); (first | (go_simp; first | (go_at_call 33; refine (sCllOk_c _ _ _ _ (ReC.of (Hid.out (by assumption)) zq0) (Hid.out (by assumption))).mono ?_; rintro e w' ⟨rfl, t, rfl⟩) | (go_at_call 45; refine (sPclOk_c _ _ _).mono ?_; rintro e w' ⟨rfl, t, rfl⟩) | (go_at_call 46; refine (sPlcSide_c _ _ _ _).mono ?_; rintro e w' ⟨rfl, t, rfl⟩) | (go_at_call 47; (with_reducible refine (HD.out _ (ReC.of HX.out zq0)).mono ?_); rintro e w' ⟨⟨u1, s1, u3, s3, u4, s4, u5, s5⟩, rfl, ⟨t9, rfl⟩, ho9⟩; have HO9 := hid ho9; clear ho9) | skip)); (show K _ _); refine hK _ _ (show Ext _ _ from zq0) ?_; clear hK K; (try simp only [Act.put, List.setIfInBounds_toArray, List.set_cons_zero, List.set_cons_succ])))
            refine mix_nil ?_)
          | (
            with_reducible refine wp_region_ext (by kernel_rfl) (by kernel_rfl) ?_
            repeat (first | go_big_quiet_skip | (go_big_quiet_want; go_big_quiet_op; first | go_big_quiet_on | (apply Exists.intro; refine ⟨fun _ => ?_, ?_⟩; ((first | (go_at_call 33; first | exact quiet_call (sCllOk_c _ _ _ _ (ReC.of (Hid.out (by assumption)) zq0) (Hid.out (by assumption))) | exact quiet_call2 (sCllOk_c _ _ _ _ (ReC.of (Hid.out (by assumption)) zq0) (Hid.out (by assumption)))) | (go_at_call 45; first | exact quiet_call (sPclOk_c _ _ _) | exact quiet_call2 (sPclOk_c _ _ _)) | (go_at_call 46; first | exact quiet_call (sPlcSide_c _ _ _ _) | exact quiet_call2 (sPlcSide_c _ _ _ _)))); (try rw [h1]); (try rw [h2]); (try rw [h3]); (try rw [h4]); (try rw [p1]); (try rw [p2]); (try rw [p3]); (try rw [p4]); (try rw [r1]); (try rw [r2]); (try rw [r3]); (try rw [r4]); (try rw [r5]); (try rw [r6]); (try rw [q3]); (try rw [q4]); (try rw [hp]); (try rw [hq]); go_big_quiet_on)))
            refine wpQuiet_nil ?_
            rintro _ ⟨tq, rfl⟩))
      refine bodyPost_ret (v := .tuple #[.agg #[.int .i64 v.cell, .slice u1 v.wk.length s1, .int .i64 v.ground, .slice u3 v.outs.length s3, .slice u4 v.next.length s4, .slice u5 v.ins.length s5], .bool q]) (by simp [results, Try.results14, go_sem]) rfl ?_
      rw [HE.out.1, HE.out.2, HV.out, HQ.out]
      have Q := HO9.out
      (try rw [ext_ext] at Q)
      exact ⟨⟨u1, s1, u3, s3, u4, s4, u5, s5⟩, rfl, zq0, OwnR.mono (OwnR.fin Q zq0 (by simp) (by simp [go_sem])) zq1 zq1 (Nat.le_refl _)⟩
end Go.Proofs.Ytablgohncilmfaa

namespace Go.Proofs.Ytablgohncilmfaa
open Go.RowKit
set_option linter.unusedSimpArgs false
set_option linter.unusedVariables false

/-- The pairwise conditions; z: the block that is made at any time; N: the store that waits for all ahead, and for which all behind wait. -/
def gapOkT (ops : Array Oper) (z N : Nat) : Bool :=
  Region.noSelect ops && decide (z < N) && decide (N < ops.size) &&
  ((ops[z]?).map fun oz => oz.after.all fun e => !Region.binds .any e).getD false &&
  ((ops[N]?).map fun oN => isMk oN.op && waits oN z && (List.range N).all fun j => waits oN j || ((ops[j]?).map fun oj => !isMk oj.op).getD false).getD false &&
  (List.range ops.size).all fun j => match ops[j]? with
    | none => false
    | some oj => (oj.after.all fun e => !Region.binds .any e || decide (e.on < j)) &&
      (bif decide (N < j) then waits oj N else true) &&
      (bif decide (j < N) && j != z then ((ops[z]?).map fun oz => oz.apart ops oj && oj.apart ops oz && !waits oj z).getD false else true) &&
      (List.range j).all fun i => match ops[i]? with
        | none => false
        | some oi => bif i == z || j == z then true else segPairT ops oi oj i j
section
variable {P : Program} {ops : Array Oper} {Q : Exit → Act → World → Prop} {base : World} {z N : Nat} {oz oN : Oper}

theorem gapOkT_spec (h : gapOkT ops z N = true) : Region.noSelect ops = true ∧ z < N ∧ N < ops.size ∧ (∀ oz, ops[z]? = some oz → ∀ e ∈ oz.after, Region.binds .any e = false) ∧
    (∀ oN, ops[N]? = some oN → isMk oN.op = true ∧ waits oN z = true ∧ ∀ j oj, j < N → ops[j]? = some oj → isMk oj.op = true → waits oN j = true) ∧
    (∀ j oj, ops[j]? = some oj → (∀ e ∈ oj.after, Region.binds .any e = true → e.on < j) ∧ (N < j → waits oj N = true) ∧
      (j < N → j ≠ z → ∀ oz, ops[z]? = some oz → oz.apart ops oj = true ∧ oj.apart ops oz = true ∧ waits oj z = false) ∧
      ∀ i oi, i < j → ops[i]? = some oi → i ≠ z → j ≠ z → segPairT ops oi oj i j = true) := by
  simp only [gapOkT, Bool.and_eq_true, decide_eq_true_eq, List.all_eq_true, List.mem_range] at h
  obtain ⟨⟨⟨⟨⟨h1, h2⟩, h3⟩, h4⟩, h5⟩, h6⟩ := h
  refine ⟨h1, h2, h3, fun oz hz e he => ?_, fun oN hN => ?_, fun j oj hj => ?_⟩
  · rw [hz] at h4
    simp only [Option.map_some, Option.getD_some, Array.all_eq_true_iff_forall_mem, Bool.not_eq_true'] at h4
    exact h4 e he
  · rw [hN] at h5
    simp only [Option.map_some, Option.getD_some, Bool.and_eq_true, List.all_eq_true, List.mem_range] at h5
    refine ⟨h5.1.1, h5.1.2, fun j oj hj hoj hm => ?_⟩
    have := h5.2 j hj
    rw [hoj] at this
    simpa [hm] using this
  · have hlt : j < ops.size := (Array.getElem?_eq_some_iff.1 hj).1
    have h7 := h6 j hlt
    simp only [hj, Bool.and_eq_true, Array.all_eq_true_iff_forall_mem, List.all_eq_true, List.mem_range] at h7
    obtain ⟨⟨⟨q1, q2⟩, q3⟩, q4⟩ := h7
    refine ⟨fun e he hb => ?_, fun hN => ?_, fun hjN hjz oz hz => ?_, fun i oi hi hoi hiz hjz => ?_⟩
    · have := q1 e he
      rw [hb] at this
      simpa using this
    · simpa [hN] using q2
    · have hne : (j != z) = true := by simpa using hjz
      simp only [hjN, decide_true, hne, Bool.and_self, cond_true, hz, Option.map_some, Option.getD_some, Bool.and_eq_true, Bool.not_eq_true'] at q3
      exact ⟨q3.1.1, q3.1.2, q3.2⟩
    · have := q4 i hi
      simp only [hoi] at this
      have e1 : (i == z) = false := by simpa using hiz
      have e2 : (j == z) = false := by simpa using hjz
      simpa [e1, e2] using this

theorem tail_soundT (hB : gapOkT ops z N = true) (S : World → Prop) (hQ : ∀ c a d (v : Value) w, Q (.panic c) (Act.put a d v) w → Q (.panic c) a w) : ∀ (rem : List Nat) (listed : Array Bool) (a : Act) (w : World), listed.size = ops.size →
    rem.Pairwise (· < ·) → (∀ j ∈ rem, N < j) → (∀ j, j ∈ rem ↔ j < ops.size ∧ listed.getD j true = false) → Closed ops listed → S w → wpMix P ops S Q rem a w → wpAnyH P .any ops Q S rem.length listed a w := by
  obtain ⟨hs, hzN, hNs, _, _, hall⟩ := gapOkT_spec hB
  intro rem
  generalize hn : rem.length = n
  induction n generalizing rem with
  | zero =>
    intro listed a w hsz hpw _ hmem hcl hS h
    obtain rfl := List.eq_nil_of_length_eq_zero hn
    refine ⟨?_, h⟩
    rw [List.eq_nil_iff_forall_not_mem]
    intro j hj
    obtain ⟨h0, o, ho, _⟩ := mem_ready.1 hj
    exact absurd ((hmem j).2 ⟨(Array.getElem?_eq_some_iff.1 ho).1, h0⟩) (by simp)
  | succ n ih =>
    intro listed a w hsz hpw hgt hmem hcl hS h
    have inrem : ∀ j, j ∈ Region.ready .any ops listed → j ∈ rem := fun j hj => by
      obtain ⟨h0, o, ho, _⟩ := mem_ready.1 hj
      exact (hmem j).2 ⟨(Array.getElem?_eq_some_iff.1 ho).1, h0⟩
    have nz : ∀ j ∈ rem, j ≠ z := fun j hj => by have := hgt j hj; omega
    have nowait : ∀ i j oi, ops[i]? = some oi → i ∈ Region.ready .any ops listed → listed.getD j true = false → waits oi j = false := fun i j oi hi hr hj => by
      obtain ⟨_, o, ho, hall⟩ := mem_ready.1 hr
      rw [hi] at ho; obtain rfl := Option.some.inj ho
      cases hwt : waits oi j with
      | false => rfl
      | true =>
        simp only [waits, Array.any_eq_true, Bool.and_eq_true, beq_iff_eq] at hwt
        obtain ⟨q, hq, hb, he⟩ := hwt
        have := hall _ (Array.getElem_mem hq) hb
        rw [he] at this
        rcases Nat.lt_or_ge j listed.size with h' | h'
        · simp [h'] at hj this; rw [hj] at this; cases this
        · simp [Array.getElem?_eq_none h'] at this
    have after : ∀ (i : Nat), i ∈ rem → ∀ (pre post : List Nat), rem = pre ++ i :: post → (∀ j, j ∈ pre ++ post ↔ j < ops.size ∧ (listed.setIfInBounds i true).getD j true = false) ∧ (pre ++ post).Pairwise (· < ·) ∧ (pre ++ post).length = n := fun i hi pre post he => by
      subst he
      have hpp := List.pairwise_append.1 hpw
      obtain ⟨hp1, hp2, hp3⟩ := hpp
      obtain ⟨hp4, hp5⟩ := List.pairwise_cons.1 hp2
      refine ⟨fun j => ?_, ?_, by simp at hn ⊢; omega⟩
      · have hij : i < listed.size := by have := ((hmem i).1 hi).1; omega
        by_cases e : i = j
        · subst e
          constructor
          · intro hj
            rcases List.mem_append.1 hj with hj | hj
            · have := hp3 _ hj i (by simp); omega
            · have := hp4 _ hj; omega
          · rintro ⟨_, hj⟩
            simp [hij] at hj
        · rw [getD_set_ne true e, ← hmem j]
          simp only [List.mem_append, List.mem_cons]
          constructor
          · rintro (hj | hj)
            · exact .inl hj
            · exact .inr (.inr hj)
          · rintro (hj | hj | hj)
            · exact .inl hj
            · exact absurd hj.symm e
            · exact .inr hj
      · exact List.pairwise_append.2 ⟨hp1, hp5, fun x hx y hy => hp3 x hx y (by simp [hy])⟩
    by_cases hp : ∃ i oi, i ∈ Region.ready .any ops listed ∧ ops[i]? = some oi ∧ isMk oi.op = false
    · obtain ⟨i, oi, hr, hi, hpure⟩ := hp
      have him := inrem i hr
      obtain ⟨pre, post, he⟩ := List.append_of_mem him
      obtain ⟨q1, q2, q3⟩ := after i him pre post he
      have hlt : ∀ k ∈ pre, k < i := fun k hk => by
        rw [he] at hpw
        exact (List.pairwise_append.1 hpw).2.2 k hk i (by simp)
      have hfree : ∀ j oj, ops[j]? = some oj → j ≠ i → listed.getD j true = false → waits oj i = false → oi.apart ops oj = true := fun j oj hj hne hun hno => by
        have hjr := (hmem j).2 ⟨(Array.getElem?_eq_some_iff.1 hj).1, hun⟩
        rcases Nat.lt_or_ge j i with hji | hji
        · exact segPairT_r ((hall i oi hi).2.2.2 j oj hji hj (nz j hjr) (nz i him)) hpure (nowait i j oi hi hr hun)
        · exact segPairT_l ((hall j oj hj).2.2.2 i oi (by omega) hi (nz i him) (nz j hjr)) hpure hno
      rw [he] at h
      obtain ⟨v, hy, hh⟩ := mix_hoist hs hi hpure pre post a w hS (fun k hk => by
        have hkm : k ∈ rem := by rw [he]; simp [hk]
        obtain ⟨k1, k2⟩ := (hmem k).1 hkm
        obtain ⟨ok, hok⟩ : ∃ ok, ops[k]? = some ok := ⟨_, Array.getElem?_eq_getElem k1⟩
        have hki := hlt k hk
        refine ⟨ok, hok, hfree k ok hok (by omega) k2 ?_⟩
        cases hwt : waits ok i with
        | false => rfl
        | true =>
          simp only [waits, Array.any_eq_true, Bool.and_eq_true, beq_iff_eq] at hwt
          obtain ⟨q, hq, hb, he'⟩ := hwt
          have := (hall k ok hok).1 _ (Array.getElem_mem hq) hb
          omega) h
      refine wpAnyH_first hi (Region.noSelect_spec hs) (fun c a w => hQ c a _ _ w) n listed a w (fun j oj hj hne hun hno => hfree j oj hj hne hun ?_) hr hy hS ?_
      · cases hwt : waits oj i with
        | false => rfl
        | true =>
          simp only [waits, Array.any_eq_true, Bool.and_eq_true, beq_iff_eq] at hwt
          obtain ⟨q, hq, hb, he'⟩ := hwt
          exact absurd he' (hno _ (Array.getElem_mem hq) hb)
      · exact ih (pre ++ post) q3 _ _ _ (by simp [hsz]) q2 (fun j hj => hgt j (by rw [he]; rcases List.mem_append.1 hj with h' | h' <;> simp [h'])) q1 (hcl.step hr) hS hh
    · cases rem with
      | nil => simp at hn
      | cons k rest =>
        obtain ⟨k1, k2⟩ := (hmem k).1 (by simp)
        obtain ⟨ok, hok⟩ : ∃ ok, ops[k]? = some ok := ⟨_, Array.getElem?_eq_getElem k1⟩
        obtain ⟨hpk, hpr⟩ := List.pairwise_cons.1 hpw
        have hkr : k ∈ Region.ready .any ops listed := by
          refine mem_ready.2 ⟨k2, ok, hok, fun e he hb => ?_⟩
          have hlt := (hall k ok hok).1 e he hb
          cases hl : listed.getD e.on true with
          | true =>
            have : e.on < listed.size := by omega
            simp [this] at hl ⊢; exact hl
          | false =>
            have := (hmem e.on).2 ⟨by omega, hl⟩
            rcases List.mem_cons.1 this with h' | h'
            · omega
            · have := hpk _ h'; omega
        have hmk : isMk ok.op = true := by
          cases hm : isMk ok.op with
          | true => rfl
          | false => exact absurd ⟨k, ok, hkr, hok, hm⟩ hp
        have only : ∀ j, j ∈ Region.ready .any ops listed → j = k := fun j hj => by
          rcases List.mem_cons.1 (inrem j hj) with h' | h'
          · exact h'
          · exfalso
            have hkj := hpk j h'
            obtain ⟨_, oj, hoj, _⟩ := mem_ready.1 hj
            have hmj : isMk oj.op = true := by
              cases hm : isMk oj.op with
              | true => rfl
              | false => exact absurd ⟨j, oj, hj, hoj, hm⟩ hp
            have h1 := segPairT_mk ((hall j oj hoj).2.2.2 k ok hkj hok (nz k (by simp)) (nz j (by simp [h']))) hmk hmj
            have h2 := hcl.reach (ops.size) j k (by
              obtain ⟨_, o2, ho2, hall2⟩ := mem_ready.1 hj
              intro o ho e he hb
              rw [ho2] at ho; obtain rfl := Option.some.inj ho
              exact hall2 e he hb) h1
            have : k < listed.size := by omega
            simp [this] at k2 h2
            rw [k2] at h2; cases h2
        obtain ⟨q1, q2, q3⟩ := after k (by simp) [] rest rfl
        simp only [List.nil_append] at q1 q2 q3
        refine ⟨fun h0 => (by rw [h0] at hkr; cases hkr), fun j hj => ?_⟩
        obtain rfl := only j hj
        simp only [wpMix, hok, hmk, if_true] at h
        unfold wpOp
        simp only [hok]
        split
        · rename_i hw
          simp only [hw, if_true] at h
          exact .inl (wp_Qn (fun a' w' ⟨h1, h2⟩ => ⟨h1, ih rest q3 _ _ _ (by simp [hsz]) q2 (fun j hj => hgt j (by simp [hj])) q1 (hcl.step hkr) h1 h2⟩) h)
        · rename_i hw
          simp only [hw] at h
          exact ⟨hS, ih rest q3 _ _ _ (by simp [hsz]) q2 (fun j hj => hgt j (by simp [hj])) q1 (hcl.step hkr) hS h⟩

theorem gap_soundT {zobj : Obj} (hB : gapOkT ops z N = true) (hz : ops[z]? = some oz) (hN : ops[N]? = some oN) (hgz : oz.guard = none) (hgN : oN.guard = none) (hmz : isMk oz.op = true)
    (hrun : ∀ (a : Act) (w : World), (execOp a.eval oz).run P w = .ok (.value (ptrTo w.heap.size)) (w.alloc zobj)) (hQ : ∀ c a d (v : Value) w, Q (.panic c) (Act.put a d v) w → Q (.panic c) a w) :
    ∀ (n : Nat) (rem : List Nat) (listed : Array Bool) (a : Act) (az : Option Nat) (iv : List (Nat × Nat)) (w : World), listed.size = ops.size → rem.Pairwise (· < ·) → n = rem.length + (if az.isNone then 1 else 0) →
      (∀ j, j ∈ rem ↔ j < N ∧ j ≠ z ∧ listed.getD j true = false) → listed.getD z true = az.isSome → (∀ j, N ≤ j → j < ops.size → listed.getD j true = false) → Closed ops listed → Ext base w → (∀ q ∈ iv, q.2 ≤ w.heap.size) →
      (∀ p, az = some p → base.heap.size ≤ p ∧ w.heap[p]? = some zobj ∧ ∀ q ∈ iv, p < q.1 ∨ q.2 ≤ p) → wpGap P ops base (gapK P ops Q base N oz oN zobj) rem iv a w →
      wpAnyH P .any ops Q (fun w' => Ext base w') (n + (ops.size - N)) listed (azPut oz.dst az a) w := by
  obtain ⟨hs, hzN, hNs, hzf, hNw, hall⟩ := gapOkT_spec hB
  have wantz : ∀ y, Region.wanted oz y = true := fun y => by simp [Region.wanted, hgz]
  have wantN : ∀ y, Region.wanted oN y = true := fun y => by simp [Region.wanted, hgN]
  intro n
  induction n with
  | zero =>
    intro rem listed a az iv w hsz hpw hn hmem hlz hge hcl hE hiv haz h
    obtain rfl : rem = [] := List.eq_nil_of_length_eq_zero (by omega)
    cases az with
    | none => simp at hn
    | some p =>
      have nowait : ∀ i j oi, ops[i]? = some oi → i ∈ Region.ready .any ops listed → listed.getD j true = false → waits oi j = false := fun i j oi hi hr hj => by
        obtain ⟨_, o, ho, hall⟩ := mem_ready.1 hr
        rw [hi] at ho; obtain rfl := Option.some.inj ho
        cases hwt : waits oi j with
        | false => rfl
        | true =>
          simp only [waits, Array.any_eq_true, Bool.and_eq_true, beq_iff_eq] at hwt
          obtain ⟨q, hq, hb, he⟩ := hwt
          have := hall _ (Array.getElem_mem hq) hb
          rw [he] at this
          rcases Nat.lt_or_ge j listed.size with h' | h'
          · simp [h'] at hj this; rw [hj] at this; cases this
          · simp [Array.getElem?_eq_none h'] at this
      have lst : ∀ j, j < N → listed.getD j true = true := fun j hj => by
        by_cases e : j = z
        · subst e; rw [hlz]; rfl
        · cases hl : listed.getD j true with
          | true => rfl
          | false => exact absurd ((hmem j).2 ⟨hj, e, hl⟩) (by simp)
      have hNr : N ∈ Region.ready .any ops listed := by
        refine mem_ready.2 ⟨hge N (Nat.le_refl _) hNs, oN, hN, fun e he hb => ?_⟩
        have hlt := (hall N oN hN).1 e he hb
        have h1 := lst e.on hlt
        have : e.on < listed.size := by omega
        simp [this] at h1 ⊢; exact h1
      have only : ∀ j, j ∈ Region.ready .any ops listed → j = N := fun j hj => by
        obtain ⟨h0, oj, hoj, _⟩ := mem_ready.1 hj
        have hjs := (Array.getElem?_eq_some_iff.1 hoj).1
        rcases Nat.lt_trichotomy j N with h' | h' | h'
        · rw [lst j h'] at h0; cases h0
        · exact h'
        · have h1 := (hall j oj hoj).2.1 h'
          rw [nowait j N oj hoj hj (hge N (Nat.le_refl _) hNs)] at h1
          cases h1
      rw [show 0 + (ops.size - N) = (ops.size - (N + 1)) + 1 by omega]
      refine ⟨fun h0 => (by rw [h0] at hNr; cases hNr), fun j hj => ?_⟩
      obtain rfl := only j hj
      obtain ⟨hp1, hp2, hp3⟩ := haz p rfl
      have h1 := h w p (Ext.refl w) hE hp1 hp2 hp3
      unfold wpOp
      simp only [hN, wantN, if_true]
      refine .inl (wp_Qn (fun a' w' ⟨q1, q2⟩ => ⟨q1, ?_⟩) h1)
      have h2 := tail_soundT hB (fun w' => Ext base w') hQ (List.range' (j + 1) (ops.size - (j + 1))) (listed.setIfInBounds j true) a' w' (by simp [hsz]) List.pairwise_lt_range' (fun k hk => by simp only [List.mem_range'_1] at hk; omega) (fun k => by
        simp only [List.mem_range'_1]
        constructor
        · intro hk
          refine ⟨by omega, ?_⟩
          rw [getD_set_ne true (by omega)]
          exact hge k (by omega) (by omega)
        · rintro ⟨k1, k2⟩
          refine ⟨?_, by omega⟩
          rcases Nat.lt_trichotomy k j with h' | h' | h'
          · rw [getD_set_ne true (by omega), lst k h'] at k2; cases k2
          · subst h'
            have : k < listed.size := by omega
            simp [this] at k2
          · omega) (hcl.step hNr) q1 q2
      simpa using h2
  | succ n ih =>
    intro rem listed a az iv w hsz hpw hn hmem hlz hge hcl hE hiv haz h
    have nowait : ∀ i j oi, ops[i]? = some oi → i ∈ Region.ready .any ops listed → listed.getD j true = false → waits oi j = false := fun i j oi hi hr hj => by
      obtain ⟨_, o, ho, hall⟩ := mem_ready.1 hr
      rw [hi] at ho; obtain rfl := Option.some.inj ho
      cases hwt : waits oi j with
      | false => rfl
      | true =>
        simp only [waits, Array.any_eq_true, Bool.and_eq_true, beq_iff_eq] at hwt
        obtain ⟨q, hq, hb, he⟩ := hwt
        have := hall _ (Array.getElem_mem hq) hb
        rw [he] at this
        rcases Nat.lt_or_ge j listed.size with h' | h'
        · simp [h'] at hj this; rw [hj] at this; cases this
        · simp [Array.getElem?_eq_none h'] at this
    have low : ∀ j, j ∈ Region.ready .any ops listed → j = z ∨ j ∈ rem ∨ j = N := fun j hj => by
      obtain ⟨h0, oj, hoj, _⟩ := mem_ready.1 hj
      rcases Nat.lt_trichotomy j N with h' | h' | h'
      · by_cases e : j = z
        · exact .inl e
        · exact .inr (.inl ((hmem j).2 ⟨h', e, h0⟩))
      · exact .inr (.inr h')
      · have h1 := (hall j oj hoj).2.1 h'
        rw [nowait j N oj hoj hj (hge N (Nat.le_refl _) hNs)] at h1
        cases h1
    have headmk : (¬ ∃ i oi, i ∈ Region.ready .any ops listed ∧ ops[i]? = some oi ∧ isMk oi.op = false) → ∀ p k rest, az = some p → rem = k :: rest → ∃ ok, ops[k]? = some ok ∧ isMk ok.op = true := fun hp p k rest haz1 hrem => by
      obtain ⟨k1, k0, k2⟩ := (hmem k).1 (by rw [hrem]; simp)
      obtain ⟨ok, hok⟩ : ∃ ok, ops[k]? = some ok := ⟨_, Array.getElem?_eq_getElem (by omega)⟩
      refine ⟨ok, hok, ?_⟩
      cases hm : isMk ok.op with
      | true => rfl
      | false =>
        exfalso
        refine hp ⟨k, ok, mem_ready.2 ⟨k2, ok, hok, fun e he hb => ?_⟩, hok, hm⟩
        have hlt := (hall k ok hok).1 e he hb
        rw [hrem] at hpw
        obtain ⟨hpk, _⟩ := List.pairwise_cons.1 hpw
        cases hl : listed.getD e.on true with
        | true =>
          have : e.on < listed.size := by omega
          simp [this] at hl ⊢; exact hl
        | false =>
          by_cases ez : e.on = z
          · rw [ez, hlz, haz1] at hl; cases hl
          · have := (hmem e.on).2 ⟨by omega, ez, hl⟩
            rw [hrem] at this
            rcases List.mem_cons.1 this with h' | h'
            · omega
            · have := hpk _ h'; omega
    have after : ∀ (i : Nat), i ∈ rem → ∀ (pre post : List Nat), rem = pre ++ i :: post → (∀ j, j ∈ pre ++ post ↔ j < N ∧ j ≠ z ∧ (listed.setIfInBounds i true).getD j true = false) ∧ (pre ++ post).Pairwise (· < ·) ∧ (pre ++ post).length + 1 = rem.length ∧ (listed.setIfInBounds i true).getD z true = az.isSome ∧ (∀ j, N ≤ j → j < ops.size → (listed.setIfInBounds i true).getD j true = false) := fun i hi pre post he => by
      have hi1 := (hmem i).1 hi
      subst he
      have hpp := List.pairwise_append.1 hpw
      obtain ⟨hp1, hp2, hp3⟩ := hpp
      obtain ⟨hp4, hp5⟩ := List.pairwise_cons.1 hp2
      refine ⟨fun j => ?_, ?_, by simp; omega, ?_, fun j h1 h2 => ?_⟩
      · have hij : i < listed.size := by omega
        by_cases e : i = j
        · subst e
          constructor
          · intro hj
            rcases List.mem_append.1 hj with hj | hj
            · have := hp3 _ hj i (by simp); omega
            · have := hp4 _ hj; omega
          · rintro ⟨_, _, hj⟩
            simp [hij] at hj
        · rw [getD_set_ne true e, ← hmem j]
          simp only [List.mem_append, List.mem_cons]
          constructor
          · rintro (hj | hj)
            · exact .inl hj
            · exact .inr (.inr hj)
          · rintro (hj | hj | hj)
            · exact .inl hj
            · exact absurd hj.symm e
            · exact .inr hj
      · exact List.pairwise_append.2 ⟨hp1, hp5, fun x hx y hy => hp3 x hx y (by simp [hy])⟩
      · rw [getD_set_ne true (by omega)]; exact hlz
      · rw [getD_set_ne true (by omega)]; exact hge j h1 h2
    rw [show n + 1 + (ops.size - N) = (n + (ops.size - N)) + 1 by omega]
    by_cases hp : ∃ i oi, i ∈ Region.ready .any ops listed ∧ ops[i]? = some oi ∧ isMk oi.op = false
    · obtain ⟨i, oi, hr, hi, hpure⟩ := hp
      have him : i ∈ rem := by
        rcases low i hr with e | e | e
        · subst e; rw [hz] at hi; obtain rfl := Option.some.inj hi; rw [hmz] at hpure; cases hpure
        · exact e
        · subst e; rw [hN] at hi; obtain rfl := Option.some.inj hi; rw [(hNw oN hN).1] at hpure; cases hpure
      have hi1 := (hmem i).1 him
      obtain ⟨pre, post, he⟩ := List.append_of_mem him
      obtain ⟨q1, q2, q3, q4, q5⟩ := after i him pre post he
      have hlt : ∀ k ∈ pre, k < i := fun k hk => by
        rw [he] at hpw
        exact (List.pairwise_append.1 hpw).2.2 k hk i (by simp)
      obtain ⟨apz1, apz2, _⟩ := (hall i oi hi).2.2.1 hi1.1 hi1.2.1 oz hz
      have hfree : ∀ j oj, ops[j]? = some oj → j ≠ i → listed.getD j true = false → waits oj i = false → oi.apart ops oj = true := fun j oj hj hne hun hno => by
        by_cases ez : j = z
        · subst ez; rw [hz] at hj; obtain rfl := Option.some.inj hj; exact apz2
        · rcases Nat.lt_or_ge j i with hji | hji
          · exact segPairT_r ((hall i oi hi).2.2.2 j oj hji hj ez hi1.2.1) hpure (nowait i j oi hi hr hun)
          · exact segPairT_l ((hall j oj hj).2.2.2 i oi (by omega) hi hi1.2.1 ez) hpure hno
      rw [he] at h
      obtain ⟨v, hy, hh⟩ := gap_hoist hs hi hpure pre post iv a w hE (fun k hk => by
        have hkm : k ∈ rem := by rw [he]; simp [hk]
        obtain ⟨k1, k0, k2⟩ := (hmem k).1 hkm
        obtain ⟨ok, hok⟩ : ∃ ok, ops[k]? = some ok := ⟨_, Array.getElem?_eq_getElem (by omega)⟩
        have hki := hlt k hk
        refine ⟨ok, hok, hfree k ok hok (by omega) k2 ?_⟩
        cases hwt : waits ok i with
        | false => rfl
        | true =>
          simp only [waits, Array.any_eq_true, Bool.and_eq_true, beq_iff_eq] at hwt
          obtain ⟨q, hq, hb, he'⟩ := hwt
          have := (hall k ok hok).1 _ (Array.getElem_mem hq) hb
          omega) h
      obtain ⟨z1, z2, z3⟩ := Oper.apart_spec apz1
      have hy' : YieldsIf P ops (fun w' => Ext base w') oi v (azPut oz.dst az a) := by
        cases az with
        | none => exact hy
        | some p => exact hy.of_same (execOp_put oi (fun cs b => Region.noSelect_spec hs i oi cs b hi) a oz.dst _ z1) (wanted_put oi a oz.dst _ z1)
      have h2 := ih (pre ++ post) (listed.setIfInBounds i true) (a.put oi.dst v) az iv w (by simp [hsz]) q2 (by omega) q1 q4 q5 (hcl.step hr) hE hiv haz hh
      have e2 : (azPut oz.dst az (a.put oi.dst v)) = (azPut oz.dst az a).put oi.dst v := by
        cases az with
        | none => rfl
        | some p => exact (Act.put_comm a (ptrTo p) v z2).symm
      rw [e2] at h2
      refine wpAnyH_first hi (Region.noSelect_spec hs) (fun c a w => hQ c a _ _ w) _ listed _ w (fun j oj hj hne hun hno => hfree j oj hj hne hun ?_) hr hy' hE h2
      cases hwt : waits oj i with
      | false => rfl
      | true =>
        simp only [waits, Array.any_eq_true, Bool.and_eq_true, beq_iff_eq] at hwt
        obtain ⟨q, hq, hb, he'⟩ := hwt
        exact absurd he' (hno _ (Array.getElem_mem hq) hb)
    · have nonempty : Region.ready .any ops listed ≠ [] := by
        intro h0
        have key : ∃ j, j ∈ Region.ready .any ops listed := by
          cases az with
          | none => exact ⟨z, mem_ready.2 ⟨by rw [hlz]; rfl, oz, hz, fun e he hb => by rw [hzf oz hz e he] at hb; cases hb⟩⟩
          | some p =>
            cases rem with
            | nil => simp at hn
            | cons k rest =>
              obtain ⟨k1, k0, k2⟩ := (hmem k).1 (by simp)
              obtain ⟨ok, hok⟩ : ∃ ok, ops[k]? = some ok := ⟨_, Array.getElem?_eq_getElem (by omega)⟩
              obtain ⟨hpk, _⟩ := List.pairwise_cons.1 hpw
              refine ⟨k, mem_ready.2 ⟨k2, ok, hok, fun e he hb => ?_⟩⟩
              have hlt := (hall k ok hok).1 e he hb
              cases hl : listed.getD e.on true with
              | true =>
                have : e.on < listed.size := by omega
                simp [this] at hl ⊢; exact hl
              | false =>
                by_cases ez : e.on = z
                · rw [ez, hlz] at hl; cases hl
                · have := (hmem e.on).2 ⟨by omega, ez, hl⟩
                  rcases List.mem_cons.1 this with h' | h'
                  · omega
                  · have := hpk _ h'; omega
        obtain ⟨j, hj⟩ := key
        rw [h0] at hj; cases hj
      refine ⟨fun h0 => absurd h0 nonempty, fun j hj => ?_⟩
      have notN : j ≠ N := fun ejN => by
        subst ejN
        cases haz1 : az with
        | none =>
          have h1 := (hNw oN hN).2.1
          rw [nowait j z oN hN hj (by rw [hlz, haz1]; rfl)] at h1
          cases h1
        | some p =>
          cases hrem : rem with
          | nil => rw [haz1, hrem] at hn; simp at hn
          | cons k rest =>
            obtain ⟨ok, hok, hmk⟩ := headmk hp p k rest haz1 hrem
            have hk := (hmem k).1 (by rw [hrem]; simp)
            have h1 := (hNw oN hN).2.2 k ok hk.1 hok hmk
            rw [nowait j k oN hN hj hk.2.2] at h1
            cases h1
      rcases low j hj with ez | hjm | ejN
      rotate_left 2
      · exact absurd ejN notN
      · subst ez
        have haz0 : az = none := by
          have h0 := (mem_ready.1 hj).1
          rw [hlz] at h0
          cases az with
          | none => rfl
          | some p => cases h0
        subst haz0
        unfold wpOp
        simp only [hz, wantz, if_true]
        refine .inl ?_
        unfold Oper.wp
        rw [hrun]
        simp only [Oper.upon]
        have hE' : Ext w (w.alloc zobj) := (Ext.refl w).alloc zobj
        refine ⟨hE.trans hE', ?_⟩
        exact ih rem (listed.setIfInBounds j true) a (some w.heap.size) iv (w.alloc zobj) (by simp [hsz]) hpw (by simpa using hn) (fun k => by
          by_cases e : j = k
          · subst e
            constructor
            · intro hk; exact absurd rfl ((hmem j).1 hk).2.1
            · rintro ⟨_, h', _⟩; exact absurd rfl h'
          · rw [getD_set_ne true e, hmem k]) (by
          have : j < listed.size := by omega
          simp [this]) (fun k h1 h2 => by rw [getD_set_ne true (by omega)]; exact hge k h1 h2) (hcl.step hj) (hE.trans hE') (fun q hq => Nat.le_trans (hiv q hq) hE'.size) (fun p hp' => by
          obtain rfl := Option.some.inj hp'
          exact ⟨hE.size, heap_alloc_new w zobj, fun q hq => .inr (hiv q hq)⟩) (gap_mono (gapK_mono (zobj := zobj)) rem iv a w _ h hE')
      · obtain ⟨_, oj, hoj, _⟩ := mem_ready.1 hj
        have hmj : isMk oj.op = true := by
          cases hm : isMk oj.op with
          | true => rfl
          | false => exact absurd ⟨j, oj, hj, hoj, hm⟩ hp
        cases rem with
        | nil => simp at hjm
        | cons k rest =>
          obtain ⟨k1, k0, k2⟩ := (hmem k).1 (by simp)
          obtain ⟨ok, hok⟩ : ∃ ok, ops[k]? = some ok := ⟨_, Array.getElem?_eq_getElem (by omega)⟩
          obtain ⟨hpk, _⟩ := List.pairwise_cons.1 hpw
          have ejk : j = k := by
            rcases List.mem_cons.1 hjm with h' | h'
            · exact h'
            · exfalso
              have hkj := hpk j h'
              have hj1 := (hmem j).1 hjm
              have hmk : isMk ok.op = true := by
                cases hm : isMk ok.op with
                | true => rfl
                | false =>
                  -- it would be ready, or waits
                  have hsp := (hall j oj hoj).2.2.2 k ok hkj hok k0 hj1.2.1
                  exfalso
                  refine hp ⟨k, ok, ?_, hok, hm⟩
                  refine mem_ready.2 ⟨k2, ok, hok, fun e he hb => ?_⟩
                  have hlt := (hall k ok hok).1 e he hb
                  cases hl : listed.getD e.on true with
                  | true =>
                    have : e.on < listed.size := by omega
                    simp [this] at hl ⊢; exact hl
                  | false =>
                    by_cases ez : e.on = z
                    · obtain ⟨_, _, hwz⟩ := (hall k ok hok).2.2.1 k1 k0 oz hz
                      have : waits ok z = true := by
                        simp only [waits, Array.any_eq_true, Bool.and_eq_true, beq_iff_eq]
                        obtain ⟨x, hx, hxe⟩ := Array.mem_iff_getElem.1 he
                        exact ⟨x, hx, by rw [hxe]; exact hb, by rw [hxe]; exact ez⟩
                      rw [this] at hwz; cases hwz
                    · have := (hmem e.on).2 ⟨by omega, ez, hl⟩
                      rcases List.mem_cons.1 this with h'' | h''
                      · omega
                      · have := hpk _ h''; omega
              have h1 := segPairT_mk ((hall j oj hoj).2.2.2 k ok hkj hok k0 hj1.2.1) hmk hmj
              have h2 := hcl.reach (ops.size) j k (by
                obtain ⟨_, o2, ho2, hall2⟩ := mem_ready.1 hj
                intro o ho e he hb
                rw [ho2] at ho; obtain rfl := Option.some.inj ho
                exact hall2 e he hb) h1
              have : k < listed.size := by omega
              simp [this] at k2 h2
              rw [k2] at h2; cases h2
          subst ejk
          rw [hok] at hoj; obtain rfl := Option.some.inj hoj
          obtain ⟨q1, q2, q3, q4, q5⟩ := after j (by simp) [] rest rfl
          simp only [List.nil_append] at q1 q2 q3
          obtain ⟨apz1, apz2, _⟩ := (hall j ok hok).2.2.1 k1 k0 oz hz
          obtain ⟨z1, z2, z3⟩ := Oper.apart_spec apz1
          have hsel := fun cs b => Region.noSelect_spec hs j ok cs b hok
          simp only [wpGap, hok, hmj, if_true] at h
          simp only [List.length_cons] at hn q3
          have nx : ∀ (a' : Act) (w' : World), Ext w w' → wpGap P ops base (gapK P ops Q base N oz oN zobj) rest ((w.heap.size, w'.heap.size) :: iv) a' w' →
              wpAnyH P .any ops Q (fun w' => Ext base w') (n + (ops.size - N)) (listed.setIfInBounds j true) (azPut oz.dst az a') w' := fun a' w' hE' hh =>
            ih rest (listed.setIfInBounds j true) a' az ((w.heap.size, w'.heap.size) :: iv) w' (by simp [hsz]) q2 (by omega) q1 q4 q5 (hcl.step hj) (hE.trans hE') (fun q hq => by
              rcases List.mem_cons.1 hq with rfl | hq
              · exact Nat.le_refl _
              · exact Nat.le_trans (hiv q hq) hE'.size) (fun p hp' => by
              obtain ⟨p1, p2, p3⟩ := haz p hp'
              have hlt : p < w.heap.size := (Array.getElem?_eq_some_iff.1 p2).1
              refine ⟨p1, (hE'.block hlt).trans p2, fun q hq => ?_⟩
              rcases List.mem_cons.1 hq with rfl | hq
              · exact .inl hlt
              · exact p3 q hq) hh
          unfold wpOp
          simp only [hok]
          cases az with
          | none =>
            by_cases hw : Region.wanted ok (yielded ops a.tmps) = true
            · simp only [hw, if_true] at h
              rw [if_pos (show Region.wanted ok (yielded ops (azPut oz.dst none a).tmps) = true from hw)]
              exact .inl (wp_Qn (fun a' w' ⟨h1, h2⟩ => ⟨hE.trans h1, nx a' w' h1 h2⟩) (h w (Ext.refl w)))
            · simp only [hw] at h
              rw [if_neg (show ¬ Region.wanted ok (yielded ops (azPut oz.dst none a).tmps) = true from hw)]
              refine ⟨hE, ?_⟩
              exact ih rest (listed.setIfInBounds j true) (a.put ok.dst undef) none iv w (by simp [hsz]) q2 (by simp at hn ⊢; omega) q1 q4 q5 (hcl.step hj) hE hiv haz h
          | some p =>
            have ew := wanted_put ok a oz.dst (ptrTo p) z1
            by_cases hw : Region.wanted ok (yielded ops a.tmps) = true
            · simp only [hw, if_true] at h
              rw [if_pos (show Region.wanted ok (yielded ops (azPut oz.dst (some p) a).tmps) = true from ew.trans hw)]
              refine .inl (wp_Qn (K := fun a' w' => Ext base w' ∧ wpAnyH P .any ops Q (fun w' => Ext base w') (n + (ops.size - N)) (listed.setIfInBounds j true) a' w') (fun _ _ h => h) ?_)
              refine wp_put_other (ops := ops) (a := a) (d := oz.dst) (v := ptrTo p) hsel z1 z2 ?_
              exact wp_Qn' (fun a' w' ⟨h1, h2⟩ => ⟨hE.trans h1, nx a' w' h1 h2⟩) (h w (Ext.refl w))
            · simp only [hw] at h
              rw [if_neg (show ¬ Region.wanted ok (yielded ops (azPut oz.dst (some p) a).tmps) = true from fun h' => hw (ew.symm.trans h'))]
              refine ⟨hE, ?_⟩
              show wpAnyH P .any ops Q (fun w' => Ext base w') (n + (ops.size - N)) (listed.setIfInBounds j true) ((a.put oz.dst (ptrTo p)).put ok.dst undef) w
              rw [Act.put_comm a (ptrTo p) undef z2]
              exact ih rest (listed.setIfInBounds j true) (a.put ok.dst undef) (some p) iv w (by simp [hsz]) q2 (by simp at hn ⊢; omega) q1 q4 q5 (hcl.step hj) hE hiv haz h
end
section
variable {Q : Exit → Act → World → Prop}
/-- The region: all ahead of the store in the order of the text, but for the block made at any time; then that block p, holding what was stored, in a world that is new. -/
theorem wp_region_gapT (z N : Nat) (zarr : Array Value) (T : TypeId) {id : Nat} {a : Act} {w : World} {l : List Oper} {oz oN : Oper} {l1 l2 : List Oper} {zd : Nat} {y : Operand} (hm : Try.prog.follows .mixedOrders = true) (hB : gapOkT l.toArray z N = true)
    (hz : l.toArray[z]? = some oz) (hN : l.toArray[N]? = some oN) (hgz : oz.guard = none) (hgN : oN.guard = none) (hmz : isMk oz.op = true) (hzd : oz.dst = some zd)
    (hrun : ∀ (a : Act) (w : World), (execOp a.eval oz).run Try.prog w = .ok (.value (.pointer (some ⟨w.heap.size, 0, none⟩))) (w.alloc (.cells zarr T)))
    (h1 : ((List.range N).filter (fun i => i != z)).map (fun i => l.toArray[i]?) = l1.map some) (hlen : ((List.range N).filter (fun i => i != z)).length + 1 = N) (h2 : l.drop (N + 1) = l2)
    (hop : oN.op = .store T (.tmp zd) y) (hdN : oN.dst = none) (hsz : (Try.prog.info? T).map (·.size) = some zarr.size)
    (h : wpGapL Try.prog l.toArray w (fun iv a w2 => ∀ W p, Ext w2 W → w.heap.size ≤ p → p < W.heap.size → (∀ q ∈ iv, p < q.1 ∨ q.2 ≤ p) → ∃ vs : List Value, (a.put (some zd) (.pointer (some ⟨p, 0, none⟩))).eval y = .agg vs.toArray ∧ vs.length = zarr.size ∧ (∀ v ∈ vs, v.oneCell' = true) ∧
      ((a.put (some zd) (.pointer (some ⟨p, 0, none⟩))).eval (.tmp zd) = .pointer (some ⟨p, 0, none⟩)) ∧
      ∀ W', Ext w W' → Chg [p] W W' → W'.heap[p]? = some (.cells vs.toArray T (0, 0)) → wpMixL Try.prog l.toArray (fun w' => ∃ t, w' = ext w t) (Qt Q) l2 (a.put (some zd) (.pointer (some ⟨p, 0, none⟩))) W') l1 [] a w.drew) : (Code.region id l.toArray true).wp Try.prog Q a w := by
  refine Code.wp_mono (Q := Qt Q) (fun e a w h => by cases e <;> first | exact h | exact False.elim h) (wp_region_held (S := fun w' => Ext w w') hm ?_)
  have hs := gapOkT_spec hB
  have hNs := hs.2.2.1
  have hrep : ∀ j, j < l.toArray.size → (Array.replicate l.toArray.size false).getD j true = false := fun j hj => by
    have h' : j < l.length := by simpa using hj
    simp [h']
  have kk : ∀ iv a w2, (fun iv a w2 => ∀ W p, Ext w2 W → w.heap.size ≤ p → p < W.heap.size → (∀ q ∈ iv, p < q.1 ∨ q.2 ≤ p) → ∃ vs : List Value, (a.put (some zd) (.pointer (some ⟨p, 0, none⟩))).eval y = .agg vs.toArray ∧ vs.length = zarr.size ∧ (∀ v ∈ vs, v.oneCell' = true) ∧
      ((a.put (some zd) (.pointer (some ⟨p, 0, none⟩))).eval (.tmp zd) = .pointer (some ⟨p, 0, none⟩)) ∧
      ∀ W', Ext w W' → Chg [p] W W' → W'.heap[p]? = some (.cells vs.toArray T (0, 0)) → wpMixL Try.prog l.toArray (fun w' => ∃ t, w' = ext w t) (Qt Q) l2 (a.put (some zd) (.pointer (some ⟨p, 0, none⟩))) W') iv a w2 → gapK Try.prog l.toArray (Qt Q) w N oz oN (.cells zarr T) iv a w2 := by
    intro iv a w2 hK W p hE hB0 hp hb hiv
    have hlt := lt_blk hb
    obtain ⟨vs, q1, q2, q3, q5, q4⟩ := hK W p hE (by simpa using hp) hlt hiv
    have hst := st_blk (P := Try.prog) (b := p) (T := T) vs zarr W 0 0 hb (by omega) q3
    have hsize := sizeOf_run hsz W
    have hch : Chg [p] W (setRow W p 0 vs) := Chg.setRow (by simp) vs (Chg.refl _ _)
    have hbl : (setRow W p 0 vs).heap[p]? = some (.cells vs.toArray T (0, 0)) := by
      have := blk_setRow vs (o := 0) hb
      rwa [putRow_all vs zarr q2] at this
    have hEW : Ext w (setRow W p 0 vs) := Ext.of_below (Below.chg (w0 := w) hB0.below hch fun k hk => (by
      obtain rfl : k = p := by simpa using hk
      exact hp))
    have h4 := q4 _ hEW hch hbl
    have h5 := mix_of_list (P := Try.prog) (S := fun w' => ∃ t, w' = ext w t) (Q := Qt Q) l2 (N + 1) _ _ (fun j => by rw [← h2]; simp [List.getElem?_drop]) h4
    have el : l2.length = l.toArray.size - (N + 1) := by rw [← h2]; simp
    rw [el] at h5
    unfold Oper.wp execOp
    have hrun2 : (Instr.storeAt T (.pointer (some ⟨p, 0, none⟩)) (.agg vs.toArray)).run Try.prog W = .ok () (setRow W p 0 vs) := by
      have hst' : (storeCells ⟨p, 0, none⟩ vs 0).run Try.prog W = .ok () (setRow W p 0 vs) := by simpa using hst
      simp [Instr.storeAt, Instr.sureAddr, storeVar, Sem.run_bind, hsize, Value.cells, hst', q2]
    rw [hzd]
    simp only [hop, ptrTo, q1, q5, Sem.run_bind, hrun2, Result.andThen_ok]
    refine ⟨hEW, ?_⟩
    rw [hdN]
    exact h5
  have g := gap_soundT (P := Try.prog) (Q := Qt Q) (base := w) (zobj := .cells zarr T) hB hz hN hgz hgN hmz hrun (fun c a d v w h => h) (((List.range N).filter (fun i => i != z)).length + 1) ((List.range N).filter (fun i => i != z)) (Array.replicate l.toArray.size false) a none [] w.drew (by simp) (List.Pairwise.filter _ List.pairwise_lt_range) (by simp)
    (fun j => by
      simp only [List.mem_filter, List.mem_range, bne_iff_ne]
      constructor
      · rintro ⟨h1, h2⟩; exact ⟨h1, h2, hrep j (by omega)⟩
      · rintro ⟨h1, h2, _⟩; exact ⟨h1, h2⟩) (by rw [hrep z (by have := hs.2.1; omega)]; rfl) (fun j h1 h2 => hrep j h2) (closed_none _ _) ((Ext.refl w).drew) (by simp) (fun p hp => by cases hp)
    (gap_of_list kk l1 _ [] a w.drew h1 h)
  have e : N + (l.toArray.size - N) = l.toArray.size := by omega
  rw [hlen, e] at g
  exact g
theorem wp_region_gapT' (z N : Nat) (zarr : Array Value) (T : TypeId) {id : Nat} {a : Act} {w : World} {l : List Oper} {oz oN : Oper} {zd : Nat} {y : Operand} (hm : Try.prog.follows .mixedOrders = true) (hB : gapOkT l.toArray z N = true)
    (h1 : ((List.range N).filter (fun i => i != z)).map (fun i => l.toArray[i]?) = ((l.take N).eraseIdx z).map some) (hlen : ((List.range N).filter (fun i => i != z)).length + 1 = N) (hsz : (Try.prog.info? T).map (·.size) = some zarr.size)
    (hz : l.toArray[z]? = some oz) (hN : l.toArray[N]? = some oN) (hgz : oz.guard = none) (hgN : oN.guard = none) (hmz : isMk oz.op = true) (hzd : oz.dst = some zd)
    (hop : oN.op = .store T (.tmp zd) y) (hdN : oN.dst = none)
    (hrun : ∀ (a : Act) (w : World), (execOp a.eval oz).run Try.prog w = .ok (.value (.pointer (some ⟨w.heap.size, 0, none⟩))) (w.alloc (.cells zarr T)))
    (h : wpGapL Try.prog l.toArray w (fun iv a w2 => ∀ W p, Ext w2 W → w.heap.size ≤ p → p < W.heap.size → (∀ q ∈ iv, p < q.1 ∨ q.2 ≤ p) → ∃ vs : List Value, (a.put (some zd) (.pointer (some ⟨p, 0, none⟩))).eval y = .agg vs.toArray ∧ vs.length = zarr.size ∧ (∀ v ∈ vs, v.oneCell' = true) ∧
      ((a.put (some zd) (.pointer (some ⟨p, 0, none⟩))).eval (.tmp zd) = .pointer (some ⟨p, 0, none⟩)) ∧
      ∀ W', Ext w W' → Chg [p] W W' → W'.heap[p]? = some (.cells vs.toArray T (0, 0)) → wpMixL Try.prog l.toArray (fun w' => ∃ t, w' = ext w t) (Qt Q) (l.drop (N + 1)) (a.put (some zd) (.pointer (some ⟨p, 0, none⟩))) W') ((l.take N).eraseIdx z) [] a w.drew) : (Code.region id l.toArray true).wp Try.prog Q a w :=
  wp_region_gapT z N zarr T hm hB hz hN hgz hgN hmz hzd hrun h1 hlen rfl hop hdN hsz h
end
end Go.Proofs.Ytablgohncilmfaa

namespace Go.Proofs.Ytablgohncilmfaa
open Go.RowKit
set_option linter.unusedSimpArgs false
set_option linter.unusedVariables false

theorem flat_mem_nodup : ∀ {Bs : List (List Nat)}, Bs.flatten.Nodup → ∀ {k : Nat} {Bk : List Nat}, Bs[k]? = some Bk → Bk.Nodup
  | [], _, _, _, h => by simp at h
  | B :: Bs, hn, 0, Bk, h => by
    simp only [List.getElem?_cons_zero, Option.some.injEq] at h
    subst h
    rw [List.flatten_cons] at hn
    exact (List.nodup_append.1 hn).1
  | B :: Bs, hn, k + 1, Bk, h => by
    rw [List.flatten_cons] at hn
    exact flat_mem_nodup (List.nodup_append.1 hn).2.1 (k := k) (by simpa using h)
theorem flat_apart : ∀ {Bs : List (List Nat)}, Bs.flatten.Nodup → ∀ {i k : Nat} {Bi Bk : List Nat}, Bs[i]? = some Bi → Bs[k]? = some Bk → i ≠ k → ∀ z ∈ Bi, z ∉ Bk
  | [], _, _, _, _, _, h, _, _ => by simp at h
  | B :: Bs, hn, 0, 0, _, _, _, _, hne => absurd rfl hne
  | B :: Bs, hn, 0, k + 1, Bi, Bk, hi, hk, _ => fun z hz hz' => by
    simp only [List.getElem?_cons_zero, Option.some.injEq] at hi
    subst hi
    rw [List.flatten_cons] at hn
    exact (List.nodup_append.1 hn).2.2 z hz z (mem_flatten_of (i := k) (by simpa using hk) hz') rfl
  | B :: Bs, hn, i + 1, 0, Bi, Bk, hi, hk, _ => fun z hz hz' => by
    simp only [List.getElem?_cons_zero, Option.some.injEq] at hk
    subst hk
    rw [List.flatten_cons] at hn
    exact (List.nodup_append.1 hn).2.2 z hz' z (mem_flatten_of (i := i) (by simpa using hi) hz) rfl
  | B :: Bs, hn, i + 1, k + 1, Bi, Bk, hi, hk, hne => by
    rw [List.flatten_cons] at hn
    exact flat_apart (List.nodup_append.1 hn).2.1 (i := i) (k := k) (by simpa using hi) (by simpa using hk) (by omega)

/-- The k-th of slices that one owns: where it lies, and what stays when it is turned. -/
theorem own_sl_at {w : World} {e : Sch} {a : Option Addr} {n c : Nat} {ds : List Dat} {B : List Nat} {k : Nat} {x : Dat} (ho : Own w (.sl (.sl e)) [.slice a n c] (.l ds) B) (hn : B.Nodup) (hx : ds[k]? = some x) :
    ∃ (b : Nat) (arr : Array Value) (T : TypeId) (Bk : List Nat) (v : Value), a = some ⟨b, 0, none⟩ ∧ n = ds.length ∧ w.heap[b]? = some (.cells arr T (0, 0)) ∧ arr[k]? = some v ∧ Own w (.sl e) [v] x Bk ∧ Bk.Nodup ∧ (∀ z ∈ Bk, z ∈ B) ∧
      ∀ w' x', Own w' (.sl e) [v] x' Bk → Chg Bk w w' → (∀ z ∈ B, z < w.heap.size) → Own w' (.sl (.sl e)) [.slice a n c] (.l (ds.set k x')) B := by
  unfold Own at ho
  obtain ⟨ds', hd, hm, ⟨h0, _⟩ | ⟨b, c', arr, T, Bs, hv, hB, hl, hb, hi⟩⟩ := ho
  · simp only [Dat.l.injEq] at hd
    subst hd h0
    simp at hx
  · simp only [Dat.l.injEq] at hd
    subst hd
    simp only [List.cons.injEq, Value.slice.injEq, and_true] at hv
    obtain ⟨rfl, rfl, rfl⟩ := hv
    obtain ⟨es, Bk, hBk, hc, hok⟩ := hi k x hx
    have hes := own_len hok
    match es, hes with
    | [v], _ =>
      subst hB
      obtain ⟨hnb, hnf⟩ := List.nodup_cons.1 hn
      have hsub : ∀ z ∈ Bk, z ∈ Bs.flatten := fun z hz => mem_flatten_of hBk hz
      have hkl : Bk.Nodup := flat_mem_nodup hnf hBk
      have hcell : arr[k]? = some v := by
        have := hc 0 v rfl
        simpa [Sch.size] using this
      refine ⟨b, arr, T, Bk, v, rfl, rfl, hb, hcell, hok, hkl, fun z hz => List.mem_cons_of_mem _ (hsub z hz), fun w' x' ho' hC hlt => ?_⟩
      unfold Own
      refine ⟨ds.set k x', rfl, by simpa using hm, .inr ⟨b, c, arr, T, Bs, by rw [List.length_set], rfl, by rw [List.length_set]; exact hl, ?_, fun i y hy => ?_⟩⟩
      · rw [hC.block b (hlt b (by simp)) (fun h => hnb (hsub b h))]; exact hb
      · by_cases e1 : i = k
        · subst e1
          have hil : i < ds.length := (List.getElem?_eq_some_iff.1 hx).1
          rw [List.getElem?_set_self hil] at hy
          obtain rfl := Option.some.inj hy
          exact ⟨[v], Bk, hBk, hc, ho'⟩
        · rw [List.getElem?_set_ne (Ne.symm e1)] at hy
          obtain ⟨es', Bi, hBi, hci, hoi⟩ := hi i y hy
          exact ⟨es', Bi, hBi, hci, Own.chg hoi hC (fun z hz => hlt z (List.mem_cons_of_mem _ (mem_flatten_of hBi hz))) (flat_apart hnf hBi hBk e1)⟩

/-- The marks of lists, one behind the other. -/
def marks2 {α : Type} (mk : Int → α) (sz : Nat) (q : Int) : List Nat → List (List α)
  | [] => []
  | n :: ns => marksOf mk sz q n :: marks2 mk sz (q + ((sz * n : Nat) : Int)) ns
theorem marks2_length {α : Type} (mk : Int → α) (sz : Nat) : ∀ (ns : List Nat) (q : Int), (marks2 mk sz q ns).length = ns.length
  | [], _ => rfl
  | n :: ns, q => by simp [marks2, marks2_length mk sz ns]
theorem marks2_get {α : Type} (mk : Int → α) (sz : Nat) : ∀ (ns : List Nat) (q : Int) (k n : Nat), ns[k]? = some n → (marks2 mk sz q ns)[k]? = some (marksOf mk sz (q + ((sz * (ns.take k).sum : Nat) : Int)) n)
  | [], _, _, _, h => by simp at h
  | m :: ns, q, 0, n, h => by
    simp only [List.getElem?_cons_zero, Option.some.injEq] at h
    subst h
    simp [marks2]
  | m :: ns, q, k + 1, n, h => by
    simp only [List.getElem?_cons_succ] at h
    simp only [marks2, List.getElem?_cons_succ]
    rw [marks2_get mk sz ns _ k n h]
    congr 2
    rw [List.take_succ_cons, List.sum_cons, Nat.mul_add]
    omega
theorem sum_take_succ {ns : List Nat} {k n : Nat} (h : ns[k]? = some n) : (ns.take (k + 1)).sum = (ns.take k).sum + n := by
  rw [List.take_add_one, h]; simp
theorem sum_take_le (ns : List Nat) (k : Nat) : (ns.take k).sum ≤ ns.sum := by
  have := List.take_append_drop k ns
  have e : ns.sum = (ns.take k).sum + (ns.drop k).sum := by rw [← List.sum_append_nat, this]
  omega
/-- The first k lists marked, the others as they were. -/
def mixed {α : Type} (A X : List α) (k : Nat) : List α := A.take k ++ X.drop k
theorem mixed_set {α : Type} {A X : List α} {k : Nat} {y : α} (hl : A.length = X.length) (hA : A[k]? = some y) : (mixed A X k).set k y = mixed A X (k + 1) := by
  have hk : k < A.length := (List.getElem?_eq_some_iff.1 hA).1
  unfold mixed
  rw [List.set_append_right _ _ (by rw [List.length_take]; omega), List.length_take, Nat.min_eq_left (by omega), Nat.sub_self, List.drop_eq_getElem_cons (show k < X.length by omega), List.set_cons_zero, List.take_add_one, hA]
  simp
theorem mixed_get {α : Type} {A X : List α} {k : Nat} {x : α} (hl : A.length = X.length) (hX : X[k]? = some x) : (mixed A X k)[k]? = some x := by
  have hk : k < X.length := (List.getElem?_eq_some_iff.1 hX).1
  unfold mixed
  rw [List.getElem?_append_right (by rw [List.length_take]; omega), List.length_take, Nat.min_eq_left (by omega), Nat.sub_self, List.getElem?_drop, Nat.add_zero]
  exact hX
theorem mixed_all {α : Type} {A X : List α} {k : Nat} (hl : A.length = X.length) (hk : A.length ≤ k) : mixed A X k = A := by
  unfold mixed
  rw [List.take_of_length_le hk, List.drop_eq_nil_of_le (by omega), List.append_nil]

set_option maxRecDepth 100000 in
set_option maxHeartbeats 2000000 in
theorem markPclSS_b (xss : List (List Pcl)) (a : Option Addr) (n c : Nat) (B : List Nat) (q : Int) (w : World) (ho : Own w (.sl (.sl sPcl)) [.slice a n c] (.l (xss.map (ldat Pcl.dat))) B) (hn : n = xss.length) (hnd : B.Nodup) (hlt : ∀ z ∈ B, z < w.heap.size) (h0 : 0 ≤ q) (h1 : q ≤ 900000000) (hn2 : n ≤ 1048576) (hbd : ∀ xs ∈ xss, xs.length ≤ 1048576) (hs : (xss.map List.length).sum ≤ 4194304) :
    Calls Try.prog 60 #[.slice a n c, .int .i64 q] w fun e w' => e = .returned (.int .i64 (q + ((8 * (xss.map List.length).sum : Nat) : Int))) ∧ Own w' (.sl (.sl sPcl)) [.slice a n c] (.l ((marks2 Pcl.mk' 8 q (xss.map List.length)).map (ldat Pcl.dat))) B ∧ Chg B w w' := by
  have HO := hid ho
  have HNN := hid hn
  have HND := hid hnd
  have HLT := hid hlt
  have HB := hid hbd
  have HS := hid hs
  have HML := hid (show (marks2 Pcl.mk' 8 q (xss.map List.length)).length = xss.length by rw [marks2_length, List.length_map])
  clear ho hn hnd hlt hbd hs
  go_enter Try.func60, Try.ntmps60
  go_wp2
  go_loopw [1, 5] (fun k i wr => ∃ (j : Nat) (p : Int), j ≤ n ∧ i = .int .i64 j ∧ k = .int .i64 p ∧ 0 ≤ p ∧ p ≤ 940000000 ∧ p = q + ((8 * ((xss.map List.length).take j).sum : Nat) : Int) ∧ Own wr (.sl (.sl sPcl)) [.slice a n c] (.l ((mixed (marks2 Pcl.mk' 8 q (xss.map List.length)) xss j).map (ldat Pcl.dat))) B ∧ Chg B w wr) (fun _ i _ => n - (intOf i).toNat)
  case atStart => exact ⟨0, q, Nat.zero_le _, rfl, rfl, h0, by omega, by simp, by simpa [mixed] using HO.out, Chg.refl _ _⟩
  case round =>
    obtain ⟨j, p, hj, rfl, rfl, p0, p1, hp, ho, hc⟩ := hrel
    have HP := hid hp
    have HW := hid ho
    have HC := hid hc
    clear hp ho hc
    by_cases hl : j < n
    · have hjx : j < xss.length := by have := HNN.out; omega
      have HX := hid (show xss[j]? = some xss[j] from List.getElem?_eq_getElem hjx)
      have HG := hid (mixed_get (A := marks2 Pcl.mk' 8 q (xss.map List.length)) HML.out HX.out)
      obtain ⟨b, arr, T, Bk, v, rfl, hne9, hb, hv, hok, hkn, hsub, hupd⟩ := own_sl_at (k := j) (x := ldat Pcl.dat xss[j]) HW.out HND.out (by rw [List.getElem?_map, HG.out]; rfl)
      clear hne9
      have hwl : ∀ z ∈ B, z < wr.heap.size := fun z hz => Nat.lt_of_lt_of_le (HLT.out z hz) HC.out.size
      have hre : Re wr (.sl sPcl) [v] (.l (xss[j].map Pcl.dat)) := Own.re hok fun z hz => hwl z (hsub z hz)
      obtain ⟨ka, kc, hve⟩ := hre.slice
      simp only [List.cons.injEq, and_true, List.length_map] at hve
      subst hve
      have hcell := (cell_blk hb j).trans hv
      have hxb : xss[j].length ≤ 1048576 := HB.out _ (List.getElem_mem hjx)
      have hln : (xss.map List.length)[j]? = some xss[j].length := by rw [List.getElem?_map, HX.out]; rfl
      have hsum : ((xss.map List.length).take j).sum + xss[j].length ≤ 4194304 := by have := sum_take_le (xss.map List.length) (j + 1); rw [sum_take_succ hln] at this; have := HS.out; omega
      have HSUM := hid hsum
      have HST := hid (sum_take_succ hln)
      have HMG := hid (marks2_get Pcl.mk' 8 (xss.map List.length) q j _ hln)
      have HOK := hid hok
      have HUP := hid hupd
      have HSB := hid hsub
      have HWL := hid hwl
      have hp2 : p + (8 : Int) * (xss[j].length : Int) ≤ 940000000 := by have := HP.out; have := HSUM.out; omega
      clear hb hv hok hkn hsub hupd hwl hre hln hsum
      try go_wp2_with (first
          | (go_at_call 105; (with_reducible refine (markPclS_b xss[j] ka xss[j].length kc Bk p _ (HOK.out.of zq0 (fun z hz => HWL.out z (HSB.out z hz))) p0 (by omega) hxb).mono ?_); rintro e w' ⟨rfl, ho2, hc2⟩; have HO2 := hid ho2; have HC2 := hid (Chg.trans (Chg.of_ext (show Ext wr _ from zq0) Bk) hc2); clear ho2 hc2)
          | (
            with_reducible refine wp_region_mix (by kernel_rfl) (by decide +kernel) ?_
            repeat (first
              | (refine mix_pure rfl ?_; (first | go_big_quiet_skip | (go_big_quiet_want; go_big_quiet_op; go_big_quiet_on)); refine wpQuiet_nil ?_)
              | (refine mix_skip (by rfl) ?_; (try simp only [Act.put, List.setIfInBounds_toArray, List.set_cons_zero, List.set_cons_succ]))
              | (refine mix_mk rfl (by rfl) (fun K hK => ?_); (first | (go_simp; first | (go_at_call 105; (with_reducible refine (markPclS_b xss[j] ka xss[j].length kc Bk p _ (HOK.out.of zq0 (fun z hz => HWL.out z (HSB.out z hz))) p0 (by omega) hxb).mono ?_); rintro e w' ⟨rfl, ho2, hc2⟩; have HO2 := hid ho2; have HC2 := hid (Chg.trans (Chg.of_ext (show Ext wr _ from zq0) Bk) hc2); clear ho2 hc2) | skip)); (show K _ _); refine hK _ _ (show Ext _ _ from zq0) ?_; clear hK K; (try simp only [Act.put, List.setIfInBounds_toArray, List.set_cons_zero, List.set_cons_succ])))
            refine mix_nil ?_)
          | (
            with_reducible refine wp_region_ext (by kernel_rfl) (by kernel_rfl) ?_
            repeat (first | go_big_quiet_skip | (go_big_quiet_want; go_big_quiet_op; first | go_big_quiet_on | (apply Exists.intro; refine ⟨fun _ => ?_, ?_⟩; (fail); (try rw [h1]); (try rw [h2]); (try rw [h3]); (try rw [h4]); (try rw [p1]); (try rw [p2]); (try rw [p3]); (try rw [p4]); (try rw [r1]); (try rw [r2]); (try rw [r3]); (try rw [r4]); (try rw [r5]); (try rw [r6]); (try rw [q3]); (try rw [q4]); (try rw [hp]); (try rw [hq]); go_big_quiet_on)))
            refine wpQuiet_nil ?_
            rintro _ ⟨tq, rfl⟩))
      go_roundw
      case rel =>
        have hpe : p + (8 : Int) * (xss[j].length : Int) = q + ((8 * ((xss.map List.length).take (j + 1)).sum : Nat) : Int) := by rw [HST.out]; have := HP.out; omega
        have hown := HUP.out _ (ldat Pcl.dat (marksOf Pcl.mk' 8 p xss[j].length)) HO2.out HC2.out HWL.out
        refine ⟨j + 1, p + (8 : Int) * (xss[j].length : Int), by omega, by go_num, by first | rfl | (congr 1; omega), by omega, hp2, hpe, ?_, Chg.trans HC.out (Chg.mono HC2.out HSB.out)⟩
        have e1 := mixed_set (A := marks2 Pcl.mk' 8 q (xss.map List.length)) (X := xss) HML.out HMG.out
        rw [← e1, List.map_set, ← HP.out]
        exact hown
      case measure => simp [intOf]; omega
    · have HE := hid (show j = n by omega)
      have HA := hid (mixed_all (A := marks2 Pcl.mk' 8 q (xss.map List.length)) (X := xss) (k := j) HML.out (by rw [HML.out, ← HNN.out]; omega))
      go_wp2
      go_ret
      refine ⟨ret_int (by rw [HP.out, List.take_of_length_le (by rw [List.length_map, ← HNN.out]; omega)]), ?_, HC.out⟩
      have h9 := HW.out
      rw [HA.out] at h9
      exact h9

set_option maxRecDepth 100000 in
set_option maxHeartbeats 2000000 in
theorem heldPclSS_c (lens : List Nat) (a : Option Addr) (n c : Nat) (q : Int) (w : World) (hx : Re w (.sl (.sl sPcl)) [.slice a n c] (.l ((marks2 Pcl.mk' 8 q lens).map (ldat Pcl.dat)))) (h0 : 0 ≤ q) (h1 : q ≤ 900000000) (hn2 : n ≤ 1048576) (hbd : ∀ k ∈ lens, k ≤ 1048576) (hs : lens.sum ≤ 4194304) :
    Calls Try.prog 63 #[.slice a n c, .int .i64 q] w fun e w' => e = .returned (.int .i64 (q + ((8 * lens.sum : Nat) : Int))) ∧ Ext w w' := by
  have HNN := hid (show n = lens.length by have := hx.len; rw [marks2_length] at this; exact this)
  have HX := hid hx
  have HB := hid hbd
  have HS := hid hs
  clear hx hbd hs
  go_enter Try.func63, Try.ntmps63
  go_wp2
  go_loopw [1, 5] (fun k i wr => ∃ (j : Nat) (p : Int), j ≤ n ∧ i = .int .i64 j ∧ k = .int .i64 p ∧ 0 ≤ p ∧ p ≤ 940000000 ∧ p = q + ((8 * (lens.take j).sum : Nat) : Int) ∧ Ext w wr) (fun _ i _ => n - (intOf i).toNat)
  case atStart => exact ⟨0, q, Nat.zero_le _, rfl, rfl, h0, by omega, by simp, zq0⟩
  case round =>
    obtain ⟨j, p, hj, rfl, rfl, p0, p1, hp, t, rfl⟩ := hrel
    have HP := hid hp
    clear hp
    by_cases hl : j < n
    · have hjl : j < lens.length := by have := HNN.out; omega
      have hln : lens[j]? = some lens[j] := List.getElem?_eq_getElem hjl
      obtain ⟨ys, b, o, ka, kc, hyk, rfl, hb, f0, hr⟩ := at_SS HX.out hl
      rw [marks2_get Pcl.mk' 8 lens q j _ hln, ← HP.out] at hyk
      have hy := Option.some.inj hyk
      subst hy
      rw [marksOf_length] at f0 hr
      have hxb : lens[j] ≤ 1048576 := HB.out _ (List.getElem_mem hjl)
      have HST := hid (sum_take_succ hln)
      have hsum : (lens.take j).sum + lens[j] ≤ 4194304 := by have := sum_take_le lens (j + 1); rw [HST.out] at this; have := HS.out; omega
      have hp2 : p + (8 : Int) * (lens[j] : Int) ≤ 940000000 := by have := HP.out; omega
      have HR := hid hr
      clear hr hyk hln
      try go_wp2_with (first
          | (go_at_call 106; (with_reducible refine (heldPclS_c ka lens[j] kc p _ (HR.out.of zq0) p0 (by omega) hxb).mono ?_); rintro e w' ⟨rfl, t, rfl⟩)
          | (
            with_reducible refine wp_region_mix (by kernel_rfl) (by decide +kernel) ?_
            repeat (first
              | (refine mix_pure rfl ?_; (first | go_big_quiet_skip | (go_big_quiet_want; go_big_quiet_op; go_big_quiet_on)); refine wpQuiet_nil ?_)
              | (refine mix_skip (by rfl) ?_; (try simp only [Act.put, List.setIfInBounds_toArray, List.set_cons_zero, List.set_cons_succ]))
              | (refine mix_mk rfl (by rfl) (fun K hK => ?_); (first | (go_simp; first | (go_at_call 106; (with_reducible refine (heldPclS_c ka lens[j] kc p _ (HR.out.of zq0) p0 (by omega) hxb).mono ?_); rintro e w' ⟨rfl, t, rfl⟩) | skip)); (show K _ _); refine hK _ _ (show Ext _ _ from zq0) ?_; clear hK K; (try simp only [Act.put, List.setIfInBounds_toArray, List.set_cons_zero, List.set_cons_succ])))
            refine mix_nil ?_)
          | (
            with_reducible refine wp_region_ext (by kernel_rfl) (by kernel_rfl) ?_
            repeat (first | go_big_quiet_skip | (go_big_quiet_want; go_big_quiet_op; first | go_big_quiet_on | (apply Exists.intro; refine ⟨fun _ => ?_, ?_⟩; (fail); (try rw [h1]); (try rw [h2]); (try rw [h3]); (try rw [h4]); (try rw [p1]); (try rw [p2]); (try rw [p3]); (try rw [p4]); (try rw [r1]); (try rw [r2]); (try rw [r3]); (try rw [r4]); (try rw [r5]); (try rw [r6]); (try rw [q3]); (try rw [q4]); (try rw [hp]); (try rw [hq]); go_big_quiet_on)))
            refine wpQuiet_nil ?_
            rintro _ ⟨tq, rfl⟩))
      go_roundw
      case rel => exact ⟨j + 1, p + (8 : Int) * (lens[j] : Int), by omega, by go_num, by first | rfl | (congr 1; omega), by omega, hp2, by rw [HST.out]; have := HP.out; omega, zq0⟩
      case measure => simp [intOf]; omega
    · go_wp2
      go_ret
      exact ⟨ret_int (by rw [HP.out, List.take_of_length_le (by rw [← HNN.out]; omega)]), zq0⟩

theorem markPclSS_s (xss : List (List Pcl)) (a : Option Addr) (n c : Nat) (B : List Nat) (q S : Int) (w : World) (hS : ((8 * (xss.map List.length).sum : Nat) : Int) = S) (ho : Own w (.sl (.sl sPcl)) [.slice a n c] (.l (xss.map (ldat Pcl.dat))) B) (hn : n = xss.length) (hnd : B.Nodup) (hlt : ∀ z ∈ B, z < w.heap.size) (h0 : 0 ≤ q) (h1 : q ≤ 900000000) (hn2 : n ≤ 1048576) (hbd : ∀ xs ∈ xss, xs.length ≤ 1048576) (hs : (xss.map List.length).sum ≤ 4194304) :
    Calls Try.prog 60 #[.slice a n c, .int .i64 q] w fun e w' => e = .returned (.int .i64 (q + S)) ∧ Own w' (.sl (.sl sPcl)) [.slice a n c] (.l ((marks2 Pcl.mk' 8 q (xss.map List.length)).map (ldat Pcl.dat))) B ∧ Chg B w w' := by
  subst hS; exact markPclSS_b xss a n c B q w ho hn hnd hlt h0 h1 hn2 hbd hs
theorem heldPclSS_s (lens : List Nat) (a : Option Addr) (n c : Nat) (q S : Int) (w : World) (hS : ((8 * lens.sum : Nat) : Int) = S) (hx : Re w (.sl (.sl sPcl)) [.slice a n c] (.l ((marks2 Pcl.mk' 8 q lens).map (ldat Pcl.dat)))) (h0 : 0 ≤ q) (h1 : q ≤ 900000000) (hn2 : n ≤ 1048576) (hbd : ∀ k ∈ lens, k ≤ 1048576) (hs : lens.sum ≤ 4194304) :
    Calls Try.prog 63 #[.slice a n c, .int .i64 q] w fun e w' => e = .returned (.int .i64 (q + S)) ∧ Ext w w' := by
  subst hS; exact heldPclSS_c lens a n c q w hx h0 h1 hn2 hbd hs

end Go.Proofs.Ytablgohncilmfaa

namespace Go.Proofs.Ytablgohncilmfaa
open Go.RowKit
set_option linter.unusedSimpArgs false
set_option linter.unusedVariables false

theorem ownL_int_mk {w : World} {fs : List Sch} {vs : List Value} {ds : List Dat} {B : List Nat} {n : Int} (h : OwnL w fs vs ds B) : OwnL w (.int :: fs) (.int .i64 n :: vs) (.i n :: ds) B :=
  ownL_mk (s := .int) (v1 := [.int .i64 n]) (d1 := .i n) (B1 := []) (by unfold Own; exact ⟨⟨n, rfl, rfl⟩, rfl⟩) h
theorem ownL_sl_mk {w : World} {e : Sch} {fs : List Sch} {v : Value} {vs : List Value} {d : Dat} {ds : List Dat} {B1 B2 : List Nat} (h1 : Own w (.sl e) [v] d B1) (h2 : OwnL w fs vs ds B2) : OwnL w (.sl e :: fs) (v :: vs) (d :: ds) (B1 ++ B2) := ownL_mk h1 h2
def cllMarks (c : Cll) (q S : Int) : Cll where
  cell := c.cell
  wk := marksOf Wlk.mk' 5 q c.wk.length
  ground := c.ground
  outs := marks2 Pcl.mk' 8 (q + 5 * (c.wk.length : Int)) (c.outs.map List.length)
  next := marksOf imk 1 (q + 5 * (c.wk.length : Int) + S) c.next.length
  ins := marksOf imk 1 (q + 5 * (c.wk.length : Int) + S + (c.next.length : Int)) c.ins.length
theorem cllMarks_cells (c : Cll) (h : CllH) (q S : Int) : cllCells (cllMarks c q S) h = cllCells c h := by
  simp [cllCells, cllMarks, marksOf_length, marks2_length]

set_option maxRecDepth 100000 in
set_option maxHeartbeats 12000000 in
theorem markCll_c (c : Cll) (h : CllH) (lo hi : Nat) (q S : Int) (w : World) (hS : ((8 * (c.outs.map List.length).sum : Nat) : Int) = S) (ho : OwnR lo hi w sCll (cllCells c h) (cllDat c)) (h0 : 0 ≤ q) (h1 : q ≤ 800000000) (hb : BdC c) (hs : (c.outs.map List.length).sum ≤ 4194304) :
    Calls Try.prog 20 #[.agg #[.int .i64 c.cell, .slice h.a1 c.wk.length h.c1, .int .i64 c.ground, .slice h.a3 c.outs.length h.c3, .slice h.a4 c.next.length h.c4, .slice h.a5 c.ins.length h.c5], .int .i64 q] w fun e w' => e = .returned (.int .i64 (q + 5 * (c.wk.length : Int) + S + (c.next.length : Int) + (c.ins.length : Int))) ∧ OwnR lo hi w' sCll (cllCells (cllMarks c q S) h) (cllDat (cllMarks c q S)) ∧ ChgR lo hi w w' := by
  rw [cllMarks_cells]
  obtain ⟨hh, B, hn, hr, ho⟩ := ho
  have L := own_st (show Own w (.st [.int, .sl sWlk, .int, .sl (.sl sPcl), .sl .int, .sl .int]) [.int .i64 c.cell, .slice h.a1 c.wk.length h.c1, .int .i64 c.ground, .slice h.a3 c.outs.length h.c3, .slice h.a4 c.next.length h.c4, .slice h.a5 c.ins.length h.c5] (.s [.i c.cell, .l (c.wk.map Wlk.dat), .i c.ground, .l (c.outs.map (ldat Pcl.dat)), .l (c.next.map Dat.i), .l (c.ins.map Dat.i)]) B from ho)
  clear ho
  replace L := ownL_int L
  obtain ⟨B1, R1, rfl, O1, L⟩ := ownL_sl L
  replace L := ownL_int L
  obtain ⟨B3, R3, rfl, O3, L⟩ := ownL_sl L
  obtain ⟨B4, R4, rfl, O4, L⟩ := ownL_sl L
  obtain ⟨B5, R5, rfl, O5, L⟩ := ownL_sl L
  obtain rfl : R5 = [] := by unfold OwnL at L; exact L.2.2
  clear L
  have D1 : ∀ b ∈ B1, b < w.heap.size := fun b hb => Nat.lt_of_lt_of_le (hr b (by simp [hb])).2 hh
  have D3 : ∀ b ∈ B3, b < w.heap.size := fun b hb => Nat.lt_of_lt_of_le (hr b (by simp [hb])).2 hh
  have D4 : ∀ b ∈ B4, b < w.heap.size := fun b hb => Nat.lt_of_lt_of_le (hr b (by simp [hb])).2 hh
  have D5 : ∀ b ∈ B5, b < w.heap.size := fun b hb => Nat.lt_of_lt_of_le (hr b (by simp [hb])).2 hh
  have N1_3 : ∀ b ∈ B1, b ∉ B3 := fun b hb h2 => nodup_r hn b hb (by simp [h2])
  have N3_1 : ∀ b ∈ B3, b ∉ B1 := fun b hb h2 => N1_3 b h2 hb
  have N1_4 : ∀ b ∈ B1, b ∉ B4 := fun b hb h2 => nodup_r hn b hb (by simp [h2])
  have N4_1 : ∀ b ∈ B4, b ∉ B1 := fun b hb h2 => N1_4 b h2 hb
  have N1_5 : ∀ b ∈ B1, b ∉ B5 := fun b hb h2 => nodup_r hn b hb (by simp [h2])
  have N5_1 : ∀ b ∈ B5, b ∉ B1 := fun b hb h2 => N1_5 b h2 hb
  have N3_4 : ∀ b ∈ B3, b ∉ B4 := fun b hb h2 => nodup_r (nodup_t hn) b hb (by simp [h2])
  have N4_3 : ∀ b ∈ B4, b ∉ B3 := fun b hb h2 => N3_4 b h2 hb
  have N3_5 : ∀ b ∈ B3, b ∉ B5 := fun b hb h2 => nodup_r (nodup_t hn) b hb (by simp [h2])
  have N5_3 : ∀ b ∈ B5, b ∉ B3 := fun b hb h2 => N3_5 b h2 hb
  have N4_5 : ∀ b ∈ B4, b ∉ B5 := fun b hb h2 => nodup_r (nodup_t (nodup_t hn)) b hb (by simp [h2])
  have N5_4 : ∀ b ∈ B5, b ∉ B4 := fun b hb h2 => N4_5 b h2 hb
  have NDB : B3.Nodup := (List.nodup_append.1 (nodup_t hn)).1
  have HO1 := hid O1
  have HD1 := hid D1
  have HO3 := hid O3
  have HD3 := hid D3
  have HO4 := hid O4
  have HD4 := hid D4
  have HO5 := hid O5
  have HD5 := hid D5
  have HN1_3 := hid N1_3
  have HN1_4 := hid N1_4
  have HN1_5 := hid N1_5
  have HN3_1 := hid N3_1
  have HN3_4 := hid N3_4
  have HN3_5 := hid N3_5
  have HN4_1 := hid N4_1
  have HN4_3 := hid N4_3
  have HN4_5 := hid N4_5
  have HN5_1 := hid N5_1
  have HN5_3 := hid N5_3
  have HN5_4 := hid N5_4
  have HNB := hid NDB
  have HND := hid hn
  have HRR := hid hr
  have b1 := hb.b1
  have b3 := hb.b3
  have b4 := hb.b4
  have b5 := hb.b5
  have BO := hid hb.bo
  have HSS := hid hs
  have s0 : S ≤ 33554432 := by omega
  have s1 : 0 ≤ S := by omega
  have HSE := hid hS
  clear hS
  clear hb hs hn hr NDB O1 D1 O3 D3 O4 D4 O5 D5 N1_3 N1_4 N1_5 N3_1 N3_4 N3_5 N4_1 N4_3 N4_5 N5_1 N5_3 N5_4
  go_enter Try.func20, Try.ntmps20
  go_wp2_with (fail)
  refine (markWlkS_b c.wk h.a1 c.wk.length h.c1 B1 q _ (HO1.out.of zq0 HD1.out) (by omega) (by omega) b1).mono ?_
  rintro e w1 ⟨rfl, m1, C1⟩
  have Z1 : w.heap.size ≤ w1.heap.size := Nat.le_trans (Ext.size zq0) C1.size
  have P3_0 := hid (Own.chg (HO3.out.of zq0 HD3.out) C1 (fun b hb => Nat.lt_of_lt_of_le (HD3.out b hb) (Ext.size zq0)) HN3_1.out)
  have P4_0 := hid (Own.chg (HO4.out.of zq0 HD4.out) C1 (fun b hb => Nat.lt_of_lt_of_le (HD4.out b hb) (Ext.size zq0)) HN4_1.out)
  have P5_0 := hid (Own.chg (HO5.out.of zq0 HD5.out) C1 (fun b hb => Nat.lt_of_lt_of_le (HD5.out b hb) (Ext.size zq0)) HN5_1.out)
  have P1_0 := hid m1
  have g0_3 : w1.cell? ⟨w.heap.size, 3, none⟩ = some (.slice h.a3 c.outs.length h.c3) := (C1.cell (by simp [go_sem]) (fun h => Nat.lt_irrefl _ (HD1.out _ h)) 3).trans (by simp [go_sem])
  have g0_4 : w1.cell? ⟨w.heap.size, 4, none⟩ = some (.slice h.a4 c.next.length h.c4) := (C1.cell (by simp [go_sem]) (fun h => Nat.lt_irrefl _ (HD1.out _ h)) 4).trans (by simp [go_sem])
  have g0_5 : w1.cell? ⟨w.heap.size, 5, none⟩ = some (.slice h.a5 c.ins.length h.c5) := (C1.cell (by simp [go_sem]) (fun h => Nat.lt_irrefl _ (HD1.out _ h)) 5).trans (by simp [go_sem])
  have Y1 : w.heap.size + 1 ≤ w1.heap.size := Nat.le_trans (by simp [go_sem]) C1.size
  have HC1 := hid C1
  clear m1 C1
  go_wp2_with (fail)
  refine (markPclSS_s c.outs h.a3 c.outs.length h.c3 B3 (q + 5 * (c.wk.length : Int)) S _ HSE.out P3_0.out rfl HNB.out (fun b hb => Nat.lt_of_lt_of_le (HD3.out b hb) Z1) (by omega) (by omega) b3 BO.out HSS.out).mono ?_
  rintro e w3 ⟨rfl, m3, C3⟩
  have Z3 : w.heap.size ≤ w3.heap.size := Nat.le_trans Z1 C3.size
  have P1_1 := hid (Own.chg P1_0.out C3 (fun b hb => Nat.lt_of_lt_of_le (HD1.out b hb) Z1) HN1_3.out)
  have P4_1 := hid (Own.chg P4_0.out C3 (fun b hb => Nat.lt_of_lt_of_le (HD4.out b hb) Z1) HN4_3.out)
  have P5_1 := hid (Own.chg P5_0.out C3 (fun b hb => Nat.lt_of_lt_of_le (HD5.out b hb) Z1) HN5_3.out)
  have P3_1 := hid m3
  have g1_3 : w3.cell? ⟨w.heap.size, 3, none⟩ = some (.slice h.a3 c.outs.length h.c3) := (C3.cell (Nat.lt_of_succ_le Y1) (fun h => Nat.lt_irrefl _ (HD3.out _ h)) 3).trans (by simp [go_sem, g0_3])
  have g1_4 : w3.cell? ⟨w.heap.size, 4, none⟩ = some (.slice h.a4 c.next.length h.c4) := (C3.cell (Nat.lt_of_succ_le Y1) (fun h => Nat.lt_irrefl _ (HD3.out _ h)) 4).trans (by simp [go_sem, g0_4])
  have g1_5 : w3.cell? ⟨w.heap.size, 5, none⟩ = some (.slice h.a5 c.ins.length h.c5) := (C3.cell (Nat.lt_of_succ_le Y1) (fun h => Nat.lt_irrefl _ (HD3.out _ h)) 5).trans (by simp [go_sem, g0_5])
  have Y3 : w.heap.size + 1 ≤ w3.heap.size := Nat.le_trans Y1 C3.size
  have HC3 := hid C3
  clear m3 C3 Y1 g0_3 g0_4 g0_5
  go_wp2_with (fail)
  refine (markIntS_b c.next h.a4 c.next.length h.c4 B4 (q + 5 * (c.wk.length : Int) + S) _ P4_1.out (by omega) (by omega) b4).mono ?_
  rintro e w4 ⟨rfl, m4, C4⟩
  have Z4 : w.heap.size ≤ w4.heap.size := Nat.le_trans Z3 C4.size
  have P1_2 := hid (Own.chg P1_1.out C4 (fun b hb => Nat.lt_of_lt_of_le (HD1.out b hb) Z3) HN1_4.out)
  have P3_2 := hid (Own.chg P3_1.out C4 (fun b hb => Nat.lt_of_lt_of_le (HD3.out b hb) Z3) HN3_4.out)
  have P5_2 := hid (Own.chg P5_1.out C4 (fun b hb => Nat.lt_of_lt_of_le (HD5.out b hb) Z3) HN5_4.out)
  have P4_2 := hid m4
  have g2_3 : w4.cell? ⟨w.heap.size, 3, none⟩ = some (.slice h.a3 c.outs.length h.c3) := (C4.cell (Nat.lt_of_succ_le Y3) (fun h => Nat.lt_irrefl _ (HD4.out _ h)) 3).trans (by simp [go_sem, g1_3])
  have g2_4 : w4.cell? ⟨w.heap.size, 4, none⟩ = some (.slice h.a4 c.next.length h.c4) := (C4.cell (Nat.lt_of_succ_le Y3) (fun h => Nat.lt_irrefl _ (HD4.out _ h)) 4).trans (by simp [go_sem, g1_4])
  have g2_5 : w4.cell? ⟨w.heap.size, 5, none⟩ = some (.slice h.a5 c.ins.length h.c5) := (C4.cell (Nat.lt_of_succ_le Y3) (fun h => Nat.lt_irrefl _ (HD4.out _ h)) 5).trans (by simp [go_sem, g1_5])
  have Y4 : w.heap.size + 1 ≤ w4.heap.size := Nat.le_trans Y3 C4.size
  have HC4 := hid C4
  clear m4 C4 Y3 g1_3 g1_4 g1_5
  go_wp2_with (fail)
  refine (markIntS_b c.ins h.a5 c.ins.length h.c5 B5 (q + 5 * (c.wk.length : Int) + S + (c.next.length : Int)) _ P5_2.out (by omega) (by omega) b5).mono ?_
  rintro e w5 ⟨rfl, m5, C5⟩
  have Z5 : w.heap.size ≤ w5.heap.size := Nat.le_trans Z4 C5.size
  have P1_3 := hid (Own.chg P1_2.out C5 (fun b hb => Nat.lt_of_lt_of_le (HD1.out b hb) Z4) HN1_5.out)
  have P3_3 := hid (Own.chg P3_2.out C5 (fun b hb => Nat.lt_of_lt_of_le (HD3.out b hb) Z4) HN3_5.out)
  have P4_3 := hid (Own.chg P4_2.out C5 (fun b hb => Nat.lt_of_lt_of_le (HD4.out b hb) Z4) HN4_5.out)
  have P5_3 := hid m5
  have g3_3 : w5.cell? ⟨w.heap.size, 3, none⟩ = some (.slice h.a3 c.outs.length h.c3) := (C5.cell (Nat.lt_of_succ_le Y4) (fun h => Nat.lt_irrefl _ (HD5.out _ h)) 3).trans (by simp [go_sem, g2_3])
  have g3_4 : w5.cell? ⟨w.heap.size, 4, none⟩ = some (.slice h.a4 c.next.length h.c4) := (C5.cell (Nat.lt_of_succ_le Y4) (fun h => Nat.lt_irrefl _ (HD5.out _ h)) 4).trans (by simp [go_sem, g2_4])
  have g3_5 : w5.cell? ⟨w.heap.size, 5, none⟩ = some (.slice h.a5 c.ins.length h.c5) := (C5.cell (Nat.lt_of_succ_le Y4) (fun h => Nat.lt_irrefl _ (HD5.out _ h)) 5).trans (by simp [go_sem, g2_5])
  have Y5 : w.heap.size + 1 ≤ w5.heap.size := Nat.le_trans Y4 C5.size
  have HC5 := hid C5
  clear m5 C5 Y4 g2_3 g2_4 g2_5
  try go_wp2_with (first
      | fail
      | (
        with_reducible refine wp_region_mix (by kernel_rfl) (by decide +kernel) ?_
        repeat (first
          | (refine mix_pure rfl ?_; (first | go_big_quiet_skip | (go_big_quiet_want; go_big_quiet_op; go_big_quiet_on)); refine wpQuiet_nil ?_)
          | (refine mix_skip (by rfl) ?_; (try simp only [Act.put, List.setIfInBounds_toArray, List.set_cons_zero, List.set_cons_succ]))
          | (refine mix_mk rfl (by rfl) (fun K hK => ?_); (first | (go_simp; first | skip)); (show K _ _); refine hK _ _ (show Ext _ _ from zq0) ?_; clear hK K; (try simp only [Act.put, List.setIfInBounds_toArray, List.set_cons_zero, List.set_cons_succ])))
        refine mix_nil ?_)
      | (
        with_reducible refine wp_region_ext (by kernel_rfl) (by kernel_rfl) ?_
        repeat (first | go_big_quiet_skip | (go_big_quiet_want; go_big_quiet_op; first | go_big_quiet_on | (apply Exists.intro; refine ⟨fun _ => ?_, ?_⟩; (fail); (try rw [h1]); (try rw [h2]); (try rw [h3]); (try rw [h4]); (try rw [p1]); (try rw [p2]); (try rw [p3]); (try rw [p4]); (try rw [r1]); (try rw [r2]); (try rw [r3]); (try rw [r4]); (try rw [r5]); (try rw [r6]); (try rw [q3]); (try rw [q4]); (try rw [hp]); (try rw [hq]); go_big_quiet_on)))
        refine wpQuiet_nil ?_
        rintro _ ⟨tq, rfl⟩))
  go_ret
  refine ⟨ret_int (by omega), ?_, ?_⟩
  · exact ⟨Nat.le_trans hh Z5, _, HND.out, HRR.out, own_st_mk (ownL_int_mk (ownL_sl_mk P1_3.out (ownL_int_mk (ownL_sl_mk P3_3.out (ownL_sl_mk P4_3.out (ownL_sl_mk P5_3.out ownL_nil))))))⟩
  · exact Chg.toR (Chg.trans (Chg.trans (Chg.trans (Chg.trans (Chg.of_ext (show Ext w _ from zq0) _) (Chg.mono HC1.out (fun b hb => by simp [hb]))) (Chg.mono HC3.out (fun b hb => by simp [hb]))) (Chg.mono HC4.out (fun b hb => by simp [hb]))) (Chg.mono HC5.out (fun b hb => by simp [hb]))) HRR.out

set_option maxRecDepth 100000 in
set_option maxHeartbeats 2000000 in
theorem heldCll_c (c : Cll) (h : CllH) (q S : Int) (w : World) (hS : ((8 * (c.outs.map List.length).sum : Nat) : Int) = S) (hx : ReC w (cllMarks c q S) h) (h0 : 0 ≤ q) (h1 : q ≤ 800000000) (hb : BdC c) (hs : (c.outs.map List.length).sum ≤ 4194304) :
    Calls Try.prog 21 #[.agg #[.int .i64 c.cell, .slice h.a1 c.wk.length h.c1, .int .i64 c.ground, .slice h.a3 c.outs.length h.c3, .slice h.a4 c.next.length h.c4, .slice h.a5 c.ins.length h.c5], .int .i64 q] w fun e w' => e = .returned (.int .i64 (q + 5 * (c.wk.length : Int) + S + (c.next.length : Int) + (c.ins.length : Int))) ∧ Ext w w' := by
  have x1 := hx.r1
  have x3 := hx.r3
  have x4 := hx.r4
  have x5 := hx.r5
  simp only [cllMarks, marksOf_length, marks2_length, List.length_map] at x1 x3 x4 x5
  have H1 := hid x1
  have H3 := hid x3
  have H4 := hid x4
  have H5 := hid x5
  have b1 := hb.b1
  have b3 := hb.b3
  have b4 := hb.b4
  have b5 := hb.b5
  have BO := hid (show ∀ k ∈ c.outs.map List.length, k ≤ 1048576 from fun k hk => by
    obtain ⟨xs, hxs, rfl⟩ := List.mem_map.1 hk
    exact hb.bo xs hxs)
  have HSS := hid hs
  have s0 : S ≤ 33554432 := by omega
  have s1 : 0 ≤ S := by omega
  have HSE := hid hS
  clear hS
  clear hx x1 x3 x4 x5 hb hs
  go_enter Try.func21, Try.ntmps21
  try go_wp2_with (first
      | (go_at_call 62; (with_reducible refine (heldWlkS_c h.a1 c.wk.length h.c1 q _ (H1.out.of zq0) h0 (by omega) b1).mono ?_); rintro e w' ⟨rfl, t, rfl⟩) | (go_at_call 63; (with_reducible refine (heldPclSS_s (c.outs.map List.length) h.a3 c.outs.length h.c3 (q + 5 * (c.wk.length : Int)) S _ HSE.out (H3.out.of zq0) (by omega) (by omega) b3 BO.out HSS.out).mono ?_); rintro e w' ⟨rfl, t, rfl⟩) | (go_at_call 64; (with_reducible refine (heldIntS_c h.a4 c.next.length h.c4 (q + 5 * (c.wk.length : Int) + S) _ (H4.out.of zq0) (by omega) (by omega) b4).mono ?_); rintro e w' ⟨rfl, t, rfl⟩) | (go_at_call 64; (with_reducible refine (heldIntS_c h.a5 c.ins.length h.c5 (q + 5 * (c.wk.length : Int) + S + (c.next.length : Int)) _ (H5.out.of zq0) (by omega) (by omega) b5).mono ?_); rintro e w' ⟨rfl, t, rfl⟩)
      | (
        with_reducible refine wp_region_mix (by kernel_rfl) (by decide +kernel) ?_
        repeat (first
          | (refine mix_pure rfl ?_; (first | go_big_quiet_skip | (go_big_quiet_want; go_big_quiet_op; go_big_quiet_on)); refine wpQuiet_nil ?_)
          | (refine mix_skip (by rfl) ?_; (try simp only [Act.put, List.setIfInBounds_toArray, List.set_cons_zero, List.set_cons_succ]))
          | (refine mix_mk rfl (by rfl) (fun K hK => ?_); (first | (go_simp; first | (go_at_call 62; (with_reducible refine (heldWlkS_c h.a1 c.wk.length h.c1 q _ (H1.out.of zq0) h0 (by omega) b1).mono ?_); rintro e w' ⟨rfl, t, rfl⟩) | (go_at_call 63; (with_reducible refine (heldPclSS_s (c.outs.map List.length) h.a3 c.outs.length h.c3 (q + 5 * (c.wk.length : Int)) S _ HSE.out (H3.out.of zq0) (by omega) (by omega) b3 BO.out HSS.out).mono ?_); rintro e w' ⟨rfl, t, rfl⟩) | (go_at_call 64; (with_reducible refine (heldIntS_c h.a4 c.next.length h.c4 (q + 5 * (c.wk.length : Int) + S) _ (H4.out.of zq0) (by omega) (by omega) b4).mono ?_); rintro e w' ⟨rfl, t, rfl⟩) | (go_at_call 64; (with_reducible refine (heldIntS_c h.a5 c.ins.length h.c5 (q + 5 * (c.wk.length : Int) + S + (c.next.length : Int)) _ (H5.out.of zq0) (by omega) (by omega) b5).mono ?_); rintro e w' ⟨rfl, t, rfl⟩) | skip)); (show K _ _); refine hK _ _ (show Ext _ _ from zq0) ?_; clear hK K; (try simp only [Act.put, List.setIfInBounds_toArray, List.set_cons_zero, List.set_cons_succ])))
        refine mix_nil ?_)
      | (
        with_reducible refine wp_region_ext (by kernel_rfl) (by kernel_rfl) ?_
        repeat (first | go_big_quiet_skip | (go_big_quiet_want; go_big_quiet_op; first | go_big_quiet_on | (apply Exists.intro; refine ⟨fun _ => ?_, ?_⟩; (fail); (try rw [h1]); (try rw [h2]); (try rw [h3]); (try rw [h4]); (try rw [p1]); (try rw [p2]); (try rw [p3]); (try rw [p4]); (try rw [r1]); (try rw [r2]); (try rw [r3]); (try rw [r4]); (try rw [r5]); (try rw [r6]); (try rw [q3]); (try rw [q4]); (try rw [hp]); (try rw [hq]); go_big_quiet_on)))
        refine wpQuiet_nil ?_
        rintro _ ⟨tq, rfl⟩))
  go_ret
  exact ⟨ret_int (by omega), zq0⟩
end Go.Proofs.Ytablgohncilmfaa

namespace Go.Proofs.Ytablgohncilmfaa
open Go.RowKit

theorem szRun_sum' : ∀ (ns : List Nat) (left : Int), 0 ≤ left → 0 ≤ szRun left ns → ((ns.sum : Nat) : Int) ≤ left
  | [], left, h, _ => by simpa using h
  | n :: ns, left, h, h1 => by
    simp only [szRun] at h1
    split at h1
    · omega
    · have := szRun_sum' ns (left - n) (by omega) h1
      rw [List.sum_cons]
      omega
theorem cll_sum {c : Cll} (h : 0 ≤ szRun 1048576 (cllLens c)) : (c.outs.map List.length).sum ≤ 1048576 := by
  have := szRun_sum' (cllLens c) 1048576 (by omega) h
  unfold cllLens at this
  simp only [List.sum_cons, List.sum_append, List.cons_append] at this
  omega
theorem ReC.below {W W' : World} {c : Cll} {h : CllH} (r : ReC W c h) (hb : Below W.heap.size W W') : ReC W' c h := ⟨r.r1.below hb, r.r3.below hb, r.r4.below hb, r.r5.below hb⟩
theorem OwnR.cll' {lo hi : Nat} {w : World} {c : Cll} {q S : Int} {h : CllH} (k : OwnR lo hi w sCll (cllCells (cllMarks c q S) h) (cllDat (cllMarks c q S))) : ReC w (cllMarks c q S) h := k.cll
end Go.Proofs.Ytablgohncilmfaa

