/- ArbGrant: a table with a cell given to a server. -/
import Derived.Test.YtcfbfpgcfnpdgaaArbG
namespace Go.Proofs.Ytcfbfpgcfnpdgaa
open Go.RowKit
set_option linter.unusedSimpArgs false
set_option linter.unusedVariables false

def ag0 (m : Mp) (xs0 xs1 : List Int) (s k v : Int) : List Int := if arbOk m xs0 xs1 s then grant0 xs0 xs1 s k v else []
def ag1 (m : Mp) (xs0 xs1 : List Int) (s k v : Int) : List Int := if arbOk m xs0 xs1 s then grant1 xs0 xs1 s k v else []
def agB (m : Mp) (xs0 xs1 : List Int) (s k v : Int) : Bool := arbOk m xs0 xs1 s && grantB xs0 xs1 s k v
theorem grant0_len (xs0 xs1 : List Int) (s k v : Int) : (grant0 xs0 xs1 s k v).length = xs0.length := by unfold grant0; split <;> simp
theorem grant1_len (xs0 xs1 : List Int) (s k v : Int) : (grant1 xs0 xs1 s k v).length = xs1.length := by unfold grant1; split <;> simp
theorem ag0_len (m : Mp) (xs0 xs1 : List Int) (s k v : Int) : (ag0 m xs0 xs1 s k v).length ≤ xs0.length := by unfold ag0; split <;> simp [grant0_len]
theorem ag1_len (m : Mp) (xs0 xs1 : List Int) (s k v : Int) : (ag1 m xs0 xs1 s k v).length ≤ xs1.length := by unfold ag1; split <;> simp [grant1_len]
theorem own_Arb_nil (w : World) : Own w sArb [.slice none 0 0, .slice none 0 0] (arbDat [] []) [] := by
  have h : Own w (.sl .int) [.slice none 0 0] (.l (([] : List Int).map Dat.i)) [] := own_flat_mk (xs := []) (k := 1) rfl (fun w x => own_Int_mk w x) (Nat.zero_le _) (.inl ⟨rfl, rfl⟩)
  exact own_Arb_of h h
theorem arbOk_facts {m : Mp} {xs0 xs1 : List Int} {s : Int} (h : arbOk m xs0 xs1 s = true) : plcOk m = true ∧ 1 ≤ s ∧ s ≤ 3 ∧ (xs0.length : Int) = m.c ∧ (xs1.length : Int) = m.c ∧ ∀ y ∈ xs1, 0 ≤ y ∧ y ≤ 900 := by
  simp only [arbOk, Bool.and_eq_true, decide_eq_true_eq] at h
  obtain ⟨⟨⟨⟨h1, h2⟩, h3⟩, h4⟩, h5⟩ := h
  refine ⟨h1, (inB_iff.1 h2).1, (inB_iff.1 h2).2, h3, h4, fun y hy => ?_⟩
  obtain ⟨k, hk⟩ := List.getElem?_of_mem hy
  have hk1 := (List.getElem?_eq_some_iff.1 hk).1
  have hk0 : k < xs0.length := by omega
  have := allI_iff.1 h5 k (xs0[k], y) (List.getElem?_zip_eq_some.2 ⟨List.getElem?_eq_getElem hk0, hk⟩)
  simp only [arbRow, Bool.and_eq_true] at this
  exact inB_iff.1 this.1.2

set_option maxRecDepth 100000 in
set_option maxHeartbeats 4000000 in
theorem iArbGrant_c (m : Mp) (xs0 xs1 : List Int) (a0 a1 : Option Addr) (n0 c0 n1 c1 : Nat) (s k v : Int) (w : World) (h0 : Re w (.sl .int) [.slice a0 n0 c0] (.l (xs0.map Dat.i))) (h1 : Re w (.sl .int) [.slice a1 n1 c1] (.l (xs1.map Dat.i))) (b0 : n0 ≤ 1048576) (b1 : n1 ≤ 1048576) :
    Calls Try.prog 11 #[.agg #[.int .i64 m.c, .int .i64 m.w], .agg #[.slice a0 n0 c0, .slice a1 n1 c1], .int .i64 s, .int .i64 k, .int .i64 v] w (MadeArbB w (ag0 m xs0 xs1 s k v).length (ag1 m xs0 xs1 s k v).length (ag0 m xs0 xs1 s k v) (ag1 m xs0 xs1 s k v) (agB m xs0 xs1 s k v)) := by
  have H0 := hid h0
  have H1 := hid h1
  have L0 := hid h0.len
  have L1 := hid h1.len
  clear h0 h1
  cases h : arbOk m xs0 xs1 s with
  | false =>
    have E := hid (show arbOk m xs0 xs1 s = false from h)
    go_enter Try.func11, Try.ntmps11
    try go_wp2_with (first
        | (go_at_call 31; refine (iArbOk_c _ _ _ _ _ _ _ _ _ _ _ (Re.of (Hid.out (by assumption)) (by ((try simp only [ext_drew]); (try simp only [ext_ext]); repeat (first | exact Ext.refl _ | with_reducible apply Ext.add | with_reducible apply Ext.dr | apply Ext.alloc | apply Ext.ext | apply Ext.drew | refine Ext.trans ?_ (by assumption))))) (Re.of (Hid.out (by assumption)) (by ((try simp only [ext_drew]); (try simp only [ext_ext]); repeat (first | exact Ext.refl _ | with_reducible apply Ext.add | with_reducible apply Ext.dr | apply Ext.alloc | apply Ext.ext | apply Ext.drew | refine Ext.trans ?_ (by assumption))))) (by omega)).mono ?_; rintro e w' ⟨rfl, t, rfl⟩)
        | (
          with_reducible refine wp_region_mix (by kernel_rfl) (by decide +kernel) ?_
          repeat (first
            | (refine mix_pure rfl ?_; (first | go_big_quiet_skip | (go_big_quiet_want; go_big_quiet_op; go_big_quiet_on)); refine wpQuiet_nil ?_)
            | (refine mix_skip (by rfl) ?_; (try simp only [Act.put, List.setIfInBounds_toArray, List.set_cons_zero, List.set_cons_succ]))
            | (refine mix_mk rfl (by rfl) (fun K hK => ?_); (first | (go_simp; first | (go_at_call 31; refine (iArbOk_c _ _ _ _ _ _ _ _ _ _ _ (Re.of (Hid.out (by assumption)) (by ((try simp only [ext_drew]); (try simp only [ext_ext]); repeat (first | exact Ext.refl _ | with_reducible apply Ext.add | with_reducible apply Ext.dr | apply Ext.alloc | apply Ext.ext | apply Ext.drew | refine Ext.trans ?_ (by assumption))))) (Re.of (Hid.out (by assumption)) (by ((try simp only [ext_drew]); (try simp only [ext_ext]); repeat (first | exact Ext.refl _ | with_reducible apply Ext.add | with_reducible apply Ext.dr | apply Ext.alloc | apply Ext.ext | apply Ext.drew | refine Ext.trans ?_ (by assumption))))) (by omega)).mono ?_; rintro e w' ⟨rfl, t, rfl⟩) | skip)); (show K _ _); refine hK _ _ (show Ext _ _ from (by ((try simp only [ext_drew]); (try simp only [ext_ext]); repeat (first | exact Ext.refl _ | with_reducible apply Ext.add | with_reducible apply Ext.dr | apply Ext.alloc | apply Ext.ext | apply Ext.drew | refine Ext.trans ?_ (by assumption))))) ?_; clear hK K; (try simp only [Act.put, List.setIfInBounds_toArray, List.set_cons_zero, List.set_cons_succ])))
          refine mix_nil ?_)
        | (
          with_reducible refine wp_region_ext (by kernel_rfl) (by kernel_rfl) ?_
          repeat (first | go_big_quiet_skip | (go_big_quiet_want; go_big_quiet_op; first | go_big_quiet_on | (apply Exists.intro; refine ⟨fun _ => ?_, ?_⟩; ((first | (go_at_call 31; first | exact quiet_call (iArbOk_c _ _ _ _ _ _ _ _ _ _ _ (Re.of (Hid.out (by assumption)) (by ((try simp only [ext_drew]); (try simp only [ext_ext]); repeat (first | exact Ext.refl _ | with_reducible apply Ext.add | with_reducible apply Ext.dr | apply Ext.alloc | apply Ext.ext | apply Ext.drew | refine Ext.trans ?_ (by assumption))))) (Re.of (Hid.out (by assumption)) (by ((try simp only [ext_drew]); (try simp only [ext_ext]); repeat (first | exact Ext.refl _ | with_reducible apply Ext.add | with_reducible apply Ext.dr | apply Ext.alloc | apply Ext.ext | apply Ext.drew | refine Ext.trans ?_ (by assumption))))) (by omega)) | exact quiet_call2 (iArbOk_c _ _ _ _ _ _ _ _ _ _ _ (Re.of (Hid.out (by assumption)) (by ((try simp only [ext_drew]); (try simp only [ext_ext]); repeat (first | exact Ext.refl _ | with_reducible apply Ext.add | with_reducible apply Ext.dr | apply Ext.alloc | apply Ext.ext | apply Ext.drew | refine Ext.trans ?_ (by assumption))))) (Re.of (Hid.out (by assumption)) (by ((try simp only [ext_drew]); (try simp only [ext_ext]); repeat (first | exact Ext.refl _ | with_reducible apply Ext.add | with_reducible apply Ext.dr | apply Ext.alloc | apply Ext.ext | apply Ext.drew | refine Ext.trans ?_ (by assumption))))) (by omega))))); (try rw [h1]); (try rw [h2]); (try rw [h3]); (try rw [h4]); (try rw [p1]); (try rw [p2]); (try rw [p3]); (try rw [p4]); (try rw [r1]); (try rw [r2]); (try rw [r3]); (try rw [r4]); (try rw [r5]); (try rw [r6]); (try rw [q3]); (try rw [q4]); (try rw [hp]); (try rw [hq]); go_big_quiet_on)))
          refine wpQuiet_nil ?_
          rintro _ ⟨tq, rfl⟩))
    refine bodyPost_ret (v := .tuple #[.agg #[.slice none 0 0, .slice none 0 0], .bool false]) (by simp [results, Try.results11, go_sem]) rfl ?_
    rw [show ag0 m xs0 xs1 s k v = [] by rw [ag0, E.out]; rfl, show ag1 m xs0 xs1 s k v = [] by rw [ag1, E.out]; rfl, show agB m xs0 xs1 s k v = false by rw [agB, E.out]; rfl]
    refine ⟨_, _, _, _, rfl, (by ((try simp only [ext_drew]); (try simp only [ext_ext]); repeat (first | exact Ext.refl _ | with_reducible apply Ext.add | with_reducible apply Ext.dr | apply Ext.alloc | apply Ext.ext | apply Ext.drew | refine Ext.trans ?_ (by assumption)))), ?_⟩
    exact ⟨Nat.le_refl _, [], by simp, by simp, own_Arb_nil _⟩
  | true =>
    obtain ⟨f1, f2, f3, f4, f5, f6⟩ := arbOk_facts h
    have HF4 := hid f4
    have HF5 := hid f5
    have HF6 := hid f6
    have hn : n1 = n0 := by have := L0.out; have := L1.out; omega
    obtain rfl := hn
    have E0 := hid (show ag0 m xs0 xs1 s k v = grant0 xs0 xs1 s k v by rw [ag0, h]; rfl)
    have E1 := hid (show ag1 m xs0 xs1 s k v = grant1 xs0 xs1 s k v by rw [ag1, h]; rfl)
    have EB := hid (show agB m xs0 xs1 s k v = grantB xs0 xs1 s k v by rw [agB, h]; rfl)
    have LE0 := hid (show (ag0 m xs0 xs1 s k v).length = n1 by rw [E0.out, grant0_len]; exact L0.out.symm)
    have LE1 := hid (show (ag1 m xs0 xs1 s k v).length = n1 by rw [E1.out, grant1_len]; exact L1.out.symm)
    clear f4 f5 f6
    rw [LE0.out, LE1.out, E0.out, E1.out, EB.out]
    go_enter Try.func11, Try.ntmps11
    try go_wp2_with (first
        | (go_at_call 31; refine (iArbOk_c _ _ _ _ _ _ _ _ _ _ _ (Re.of (Hid.out (by assumption)) (by ((try simp only [ext_drew]); (try simp only [ext_ext]); repeat (first | exact Ext.refl _ | with_reducible apply Ext.add | with_reducible apply Ext.dr | apply Ext.alloc | apply Ext.ext | apply Ext.drew | refine Ext.trans ?_ (by assumption))))) (Re.of (Hid.out (by assumption)) (by ((try simp only [ext_drew]); (try simp only [ext_ext]); repeat (first | exact Ext.refl _ | with_reducible apply Ext.add | with_reducible apply Ext.dr | apply Ext.alloc | apply Ext.ext | apply Ext.drew | refine Ext.trans ?_ (by assumption))))) (by omega)).mono ?_; rintro e w' ⟨rfl, t, rfl⟩) | (go_at_call 32; (with_reducible refine (arbClone_c xs0 xs1 a0 c0 a1 c1 n1 n1 _ (H0.out.of (by ((try simp only [ext_drew]); (try simp only [ext_ext]); repeat (first | exact Ext.refl _ | with_reducible apply Ext.add | with_reducible apply Ext.dr | apply Ext.alloc | apply Ext.ext | apply Ext.drew | refine Ext.trans ?_ (by assumption))))) (H1.out.of (by ((try simp only [ext_drew]); (try simp only [ext_ext]); repeat (first | exact Ext.refl _ | with_reducible apply Ext.add | with_reducible apply Ext.dr | apply Ext.alloc | apply Ext.ext | apply Ext.drew | refine Ext.trans ?_ (by assumption))))) b0 b1).mono ?_); rintro e w' ⟨p0, q0, p1, q1, rfl, ⟨t0, rfl⟩, ho⟩; have O := hid ho; clear ho)
        | (
          with_reducible refine wp_region_mix (by kernel_rfl) (by decide +kernel) ?_
          repeat (first
            | (refine mix_pure rfl ?_; (first | go_big_quiet_skip | (go_big_quiet_want; go_big_quiet_op; go_big_quiet_on)); refine wpQuiet_nil ?_)
            | (refine mix_skip (by rfl) ?_; (try simp only [Act.put, List.setIfInBounds_toArray, List.set_cons_zero, List.set_cons_succ]))
            | (refine mix_mk rfl (by rfl) (fun K hK => ?_); (first | (go_simp; first | (go_at_call 31; refine (iArbOk_c _ _ _ _ _ _ _ _ _ _ _ (Re.of (Hid.out (by assumption)) (by ((try simp only [ext_drew]); (try simp only [ext_ext]); repeat (first | exact Ext.refl _ | with_reducible apply Ext.add | with_reducible apply Ext.dr | apply Ext.alloc | apply Ext.ext | apply Ext.drew | refine Ext.trans ?_ (by assumption))))) (Re.of (Hid.out (by assumption)) (by ((try simp only [ext_drew]); (try simp only [ext_ext]); repeat (first | exact Ext.refl _ | with_reducible apply Ext.add | with_reducible apply Ext.dr | apply Ext.alloc | apply Ext.ext | apply Ext.drew | refine Ext.trans ?_ (by assumption))))) (by omega)).mono ?_; rintro e w' ⟨rfl, t, rfl⟩) | (go_at_call 32; (with_reducible refine (arbClone_c xs0 xs1 a0 c0 a1 c1 n1 n1 _ (H0.out.of (by ((try simp only [ext_drew]); (try simp only [ext_ext]); repeat (first | exact Ext.refl _ | with_reducible apply Ext.add | with_reducible apply Ext.dr | apply Ext.alloc | apply Ext.ext | apply Ext.drew | refine Ext.trans ?_ (by assumption))))) (H1.out.of (by ((try simp only [ext_drew]); (try simp only [ext_ext]); repeat (first | exact Ext.refl _ | with_reducible apply Ext.add | with_reducible apply Ext.dr | apply Ext.alloc | apply Ext.ext | apply Ext.drew | refine Ext.trans ?_ (by assumption))))) b0 b1).mono ?_); rintro e w' ⟨p0, q0, p1, q1, rfl, ⟨t0, rfl⟩, ho⟩; have O := hid ho; clear ho) | skip)); (show K _ _); refine hK _ _ (show Ext _ _ from (by ((try simp only [ext_drew]); (try simp only [ext_ext]); repeat (first | exact Ext.refl _ | with_reducible apply Ext.add | with_reducible apply Ext.dr | apply Ext.alloc | apply Ext.ext | apply Ext.drew | refine Ext.trans ?_ (by assumption))))) ?_; clear hK K; (try simp only [Act.put, List.setIfInBounds_toArray, List.set_cons_zero, List.set_cons_succ])))
          refine mix_nil ?_)
        | (
          with_reducible refine wp_region_ext (by kernel_rfl) (by kernel_rfl) ?_
          repeat (first | go_big_quiet_skip | (go_big_quiet_want; go_big_quiet_op; first | go_big_quiet_on | (apply Exists.intro; refine ⟨fun _ => ?_, ?_⟩; ((first | (go_at_call 31; first | exact quiet_call (iArbOk_c _ _ _ _ _ _ _ _ _ _ _ (Re.of (Hid.out (by assumption)) (by ((try simp only [ext_drew]); (try simp only [ext_ext]); repeat (first | exact Ext.refl _ | with_reducible apply Ext.add | with_reducible apply Ext.dr | apply Ext.alloc | apply Ext.ext | apply Ext.drew | refine Ext.trans ?_ (by assumption))))) (Re.of (Hid.out (by assumption)) (by ((try simp only [ext_drew]); (try simp only [ext_ext]); repeat (first | exact Ext.refl _ | with_reducible apply Ext.add | with_reducible apply Ext.dr | apply Ext.alloc | apply Ext.ext | apply Ext.drew | refine Ext.trans ?_ (by assumption))))) (by omega)) | exact quiet_call2 (iArbOk_c _ _ _ _ _ _ _ _ _ _ _ (Re.of (Hid.out (by assumption)) (by ((try simp only [ext_drew]); (try simp only [ext_ext]); repeat (first | exact Ext.refl _ | with_reducible apply Ext.add | with_reducible apply Ext.dr | apply Ext.alloc | apply Ext.ext | apply Ext.drew | refine Ext.trans ?_ (by assumption))))) (Re.of (Hid.out (by assumption)) (by ((try simp only [ext_drew]); (try simp only [ext_ext]); repeat (first | exact Ext.refl _ | with_reducible apply Ext.add | with_reducible apply Ext.dr | apply Ext.alloc | apply Ext.ext | apply Ext.drew | refine Ext.trans ?_ (by assumption))))) (by omega))))); (try rw [h1]); (try rw [h2]); (try rw [h3]); (try rw [h4]); (try rw [p1]); (try rw [p2]); (try rw [p3]); (try rw [p4]); (try rw [r1]); (try rw [r2]); (try rw [r3]); (try rw [r4]); (try rw [r5]); (try rw [r6]); (try rw [q3]); (try rw [q4]); (try rw [hp]); (try rw [hq]); go_big_quiet_on)))
          refine wpQuiet_nil ?_
          rintro _ ⟨tq, rfl⟩))
    refine (grant_c xs0 xs1 p0 p1 n1 q0 q1 _ _ _ s k v _ (O.out.of (by ((try simp only [ext_drew]); (try simp only [ext_ext]); repeat (first | exact Ext.refl _ | with_reducible apply Ext.add | with_reducible apply Ext.dr | apply Ext.alloc | apply Ext.ext | apply Ext.drew | refine Ext.trans ?_ (by assumption))))) (Nat.le_of_eq (by simp [go_sem])) (by simp [go_sem]) (by simp [go_sem]) f2 f3 HF6.out b0).mono ?_
    rintro e w1 ⟨rfl, ho1, hc1⟩
    have g0 : w1.cell? ⟨w.heap.size + 1 + 1, 0, none⟩ = some (.slice none 0 0) := (hc1.cell (by (try simp [go_sem]) <;> (try simp [Xt.add]) <;> omega) (.inl (by (try simp [go_sem]) <;> (try simp [Xt.add]) <;> omega)) 0).trans (by simp [go_sem])
    have g1 : w1.cell? ⟨w.heap.size + 1 + 1, 1, none⟩ = some (.slice none 0 0) := (hc1.cell (by (try simp [go_sem]) <;> (try simp [Xt.add]) <;> omega) (.inl (by (try simp [go_sem]) <;> (try simp [Xt.add]) <;> omega)) 1).trans (by simp [go_sem])
    have z0 : w1.frozen? ⟨w.heap.size + 1 + 1, 0, none⟩ = false := (hc1.frozen (by (try simp [go_sem]) <;> (try simp [Xt.add]) <;> omega) (.inl (by (try simp [go_sem]) <;> (try simp [Xt.add]) <;> omega)) 0).trans (by simp [go_sem])
    have z1 : w1.frozen? ⟨w.heap.size + 1 + 1, 1, none⟩ = false := (hc1.frozen (by (try simp [go_sem]) <;> (try simp [Xt.add]) <;> omega) (.inl (by (try simp [go_sem]) <;> (try simp [Xt.add]) <;> omega)) 1).trans (by simp [go_sem])
    have e0 : w1.cell? ⟨w.heap.size + 1 + 1 + 1 + (t.add t0).bs.size, 0, none⟩ = some (.slice p0 n1 q0) := (hc1.cell (by (try simp [go_sem]) <;> (try simp [Xt.add]) <;> omega) (.inr (by (try simp [go_sem]) <;> (try simp [Xt.add]) <;> omega)) 0).trans (by simp [go_sem])
    have e1 : w1.cell? ⟨w.heap.size + 1 + 1 + 1 + (t.add t0).bs.size, 1, none⟩ = some (.slice p1 n1 q1) := (hc1.cell (by (try simp [go_sem]) <;> (try simp [Xt.add]) <;> omega) (.inr (by (try simp [go_sem]) <;> (try simp [Xt.add]) <;> omega)) 1).trans (by simp [go_sem])
    have HC := hid hc1
    have HO := hid ho1
    clear hc1 ho1
    try go_wp2_with (first
        | fail
        | (
          with_reducible refine wp_region_mix (by kernel_rfl) (by decide +kernel) ?_
          repeat (first
            | (refine mix_pure rfl ?_; (first | go_big_quiet_skip | (go_big_quiet_want; go_big_quiet_op; go_big_quiet_on)); refine wpQuiet_nil ?_)
            | (refine mix_skip (by rfl) ?_; (try simp only [Act.put, List.setIfInBounds_toArray, List.set_cons_zero, List.set_cons_succ]))
            | (refine mix_mk rfl (by rfl) (fun K hK => ?_); (first | (go_simp; first | skip)); (show K _ _); refine hK _ _ (show Ext _ _ from (by ((try simp only [ext_drew]); (try simp only [ext_ext]); repeat (first | exact Ext.refl _ | with_reducible apply Ext.add | with_reducible apply Ext.dr | apply Ext.alloc | apply Ext.ext | apply Ext.drew | refine Ext.trans ?_ (by assumption))))) ?_; clear hK K; (try simp only [Act.put, List.setIfInBounds_toArray, List.set_cons_zero, List.set_cons_succ])))
          refine mix_nil ?_)
        | (
          with_reducible refine wp_region_ext (by kernel_rfl) (by kernel_rfl) ?_
          repeat (first | go_big_quiet_skip | (go_big_quiet_want; go_big_quiet_op; first | go_big_quiet_on | (apply Exists.intro; refine ⟨fun _ => ?_, ?_⟩; (fail); (try rw [h1]); (try rw [h2]); (try rw [h3]); (try rw [h4]); (try rw [p1]); (try rw [p2]); (try rw [p3]); (try rw [p4]); (try rw [r1]); (try rw [r2]); (try rw [r3]); (try rw [r4]); (try rw [r5]); (try rw [r6]); (try rw [q3]); (try rw [q4]); (try rw [hp]); (try rw [hq]); go_big_quiet_on)))
          refine wpQuiet_nil ?_
          rintro _ ⟨tq, rfl⟩))
    refine bodyPost_ret (v := .tuple #[.agg #[.slice p0 n1 q0, .slice p1 n1 q1], .bool (grantB xs0 xs1 s k v)]) (by simp [results, Try.results11, go_sem, g0, g1, e0, e1]) rfl ?_
    refine ⟨_, _, _, _, rfl, ?_⟩
    exact fin_res (w := w) (by ((try simp only [ext_drew]); (try simp only [ext_ext]); repeat (first | exact Ext.refl _ | with_reducible apply Ext.add | with_reducible apply Ext.dr | apply Ext.alloc | apply Ext.ext | apply Ext.drew | refine Ext.trans ?_ (by assumption)))) HC.out HO.out (R := w.heap.size + 1 + 1) (by (try simp [go_sem]) <;> (try simp [Xt.add]) <;> omega) (by (try simp [go_sem]) <;> (try simp [Xt.add]) <;> omega) (by repeat (first | with_reducible exact Chg.refl _ _ | with_reducible apply Chg.drew | with_reducible apply Chg.drewl | with_reducible refine Chg.turn (by simp) | with_reducible refine Chg.both ?_ (by simp) | (with_reducible refine Chg.set ?_ (by simp) _) | with_reducible apply Chg.alloc | with_reducible apply Chg.ext))
end Go.Proofs.Ytcfbfpgcfnpdgaa
