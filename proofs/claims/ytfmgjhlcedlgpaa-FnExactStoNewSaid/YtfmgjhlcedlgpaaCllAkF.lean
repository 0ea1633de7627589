/- CllAck of the program and of the reference. -/
import Derived.Test.YtfmgjhlcedlgpaaCllAk
namespace Go.Proofs.Ytfmgjhlcedlgpaa
open Go.RowKit
set_option linter.unusedSimpArgs false
set_option linter.unusedVariables false

def cllZ : Cll := ⟨0, [], 0, [], [], []⟩
def outsAt (c : Cll) (s : Int) : List Pcl := (c.outs[s.toNat]?).getD []
def nextAt (c : Cll) (s : Int) : Int := (c.next[s.toNat]?).getD 0
def ackOkB (m : Mp) (c : Cll) (s : Int) : Bool := cllOk m c && !(plcSide m c.cell s == -1)
def ackV (m : Mp) (c : Cll) (s n : Int) : Cll := bif ackOkB m c s then (bif ackB (nextAt c s) (outsAt c s) n then ackC c s.toNat (pclFrom (outsAt c s) n) else c) else cllZ
def ackT (m : Mp) (c : Cll) (s n : Int) : Bool := ackOkB m c s && ackB (nextAt c s) (outsAt c s) n
theorem ownL_nil_cll (w : World) : Own w sCll (cllCells cllZ ⟨none, 0, none, 0, none, 0, none, 0⟩) (cllDat cllZ) [] := by
  have nl : ∀ e : Sch, Own w (.sl e) [.slice none 0 0] (.l []) [] := fun e => by
    unfold Own; exact ⟨[], rfl, Nat.zero_le _, .inl ⟨rfl, rfl, none, 0, rfl⟩⟩
  have i : Own w .int [.int .i64 0] (.i 0) [] := by unfold Own; exact ⟨⟨_, rfl, rfl⟩, rfl⟩
  unfold sCll cllDat
  refine own_st_mk ?_
  unfold OwnL; refine ⟨[_], _, _, _, [], [], rfl, rfl, rfl, i, ?_⟩
  unfold OwnL; refine ⟨[_], _, _, _, [], [], rfl, rfl, rfl, nl _, ?_⟩
  unfold OwnL; refine ⟨[_], _, _, _, [], [], rfl, rfl, rfl, i, ?_⟩
  unfold OwnL; refine ⟨[_], _, _, _, [], [], rfl, rfl, rfl, nl _, ?_⟩
  unfold OwnL; refine ⟨[_], _, _, _, [], [], rfl, rfl, rfl, nl _, ?_⟩
  unfold OwnL; refine ⟨[_], _, _, _, [], [], rfl, rfl, rfl, nl _, ?_⟩
  unfold OwnL; exact ⟨rfl, rfl, rfl⟩
/-- A cell and something beside it, the cell in new memory. -/
def MadeCV (w : World) (c : Cll) (x : Value) (e : Ending) (w' : World) : Prop :=
  ∃ h : CllH, e = .returned (.tuple #[.agg #[.int .i64 c.cell, .slice h.a1 c.wk.length h.c1, .int .i64 c.ground, .slice h.a3 c.outs.length h.c3, .slice h.a4 c.next.length h.c4, .slice h.a5 c.ins.length h.c5], x]) ∧ Ext w w' ∧ OwnR w.heap.size w'.heap.size w' sCll (cllCells c h) (cllDat c)
theorem CX.re {w : World} {c : Cll} {h : CllH} {B1 B3 B4 B5 : List Nat} (x : CX w c h B1 B3 B4 B5) : ReC w c h := (x.own (lo := 0) (fun _ _ => Nat.zero_le _)).cll
theorem CX.fin {X X' w' : World} {t : Xt} {c : Cll} {h : CllH} {B1 B3 B4 B5 : List Nat} (x : CX (ext X t) c h B1 B3 B4 B5) (hB : ∀ b ∈ B1 ++ (B3 ++ (B4 ++ B5)), X.heap.size ≤ b) (hE : Ext (ext X' t) w') (hs : X'.heap.size = X.heap.size) : CX w' c h B1 B3 B4 B5 :=
  x.same fun b hb => fin_blk (hB b hb) (x.lt b hb) hE hs
/-- What a cell that is ok has at a side. -/
theorem cll_side {m : Mp} {c : Cll} {s : Int} (h : ackOkB m c s = true) : ∃ (k : Nat) (xs : List Pcl) (nx : Int), s = k ∧ k < 2 ∧ c.outs[k]? = some xs ∧ c.next[k]? = some nx ∧ outsAt c s = xs ∧ nextAt c s = nx ∧ pclListOk m xs nx = true ∧ cllOk m c = true ∧ plcSide m c.cell s ≠ -1 := by
  simp only [ackOkB, Bool.and_eq_true, Bool.not_eq_true', beq_eq_false_iff_ne] at h
  obtain ⟨h1, h2⟩ := h
  obtain ⟨_, _, _, s0, s1, _⟩ := plcSide_ne h2
  have h1' := h1
  simp only [cllOk, Bool.and_eq_true] at h1
  obtain ⟨⟨⟨hh, _⟩, k0⟩, k1⟩ := h1
  obtain ⟨_, _, _, _, lo, ln, li⟩ := cllHead_iff.1 hh
  obtain ⟨k, rfl⟩ : ∃ k : Nat, s = k := ⟨s.toNat, by omega⟩
  have hk : k < 2 := by omega
  have hso : sideAt m c k = true := by
    match k, hk with
    | 0, _ => exact k0
    | 1, _ => exact k1
  obtain ⟨xs, hxs⟩ : ∃ x, c.outs[k]? = some x := ⟨_, List.getElem?_eq_getElem (by omega)⟩
  obtain ⟨nx, hnx⟩ : ∃ x, c.next[k]? = some x := ⟨_, List.getElem?_eq_getElem (by omega)⟩
  obtain ⟨ix, hix⟩ : ∃ x, c.ins[k]? = some x := ⟨_, List.getElem?_eq_getElem (by omega)⟩
  rw [sideAt_eq hxs hnx hix] at hso
  simp only [sideOk, Bool.and_eq_true] at hso
  exact ⟨k, xs, nx, rfl, hk, hxs, hnx, by simp [outsAt, hxs], by simp [nextAt, hnx], hso.1.1, h1', h2⟩
theorem pcl_first {m : Mp} {xs : List Pcl} {nx : Int} (h : pclListOk m xs nx = true) (k : Nat) (x : Pcl) (hx : xs[k]? = some x) : x.n = nx - xs.length + k := by
  simp only [pclListOk, Bool.and_eq_true] at h
  have := allI_iff.1 h.2 k x hx
  simp only [pclAt, Bool.and_eq_true, beq_iff_eq] at this
  rw [this.2]; omega
set_option maxRecDepth 100000 in
set_option maxHeartbeats 8000000 in
theorem iCllAck_c (m : Mp) (c : Cll) (h : CllH) (s n : Int) (w : World) (hx : ReC w c h) (hb : BdC c) :
    Calls Try.prog 29 #[.agg #[.int .i64 m.c, .int .i64 m.w], .agg #[.int .i64 c.cell, .slice h.a1 c.wk.length h.c1, .int .i64 c.ground, .slice h.a3 c.outs.length h.c3, .slice h.a4 c.next.length h.c4, .slice h.a5 c.ins.length h.c5], .int .i64 s, .int .i64 n] w (MadeCV w (ackV m c s n) (.bool (ackT m c s n))) := by
  have HX := hid hx
  have HB := hid hb
  clear hx hb
  cases q1 : cllOk m c with
  | false =>
    have hbad : ackOkB m c s = false := by simp [ackOkB, q1]
    have E1 := hid (show ackV m c s n = cllZ by simp [ackV, hbad])
    have E2 := hid (show ackT m c s n = false by simp [ackT, hbad])
    go_enter Try.func29, Try.ntmps29
    try go_wp2_with (first
        | (go_at_call 60; refine (iCllOk_c _ _ _ _ (ReC.of (Hid.out (by assumption)) (by ((try simp only [ext_drew]); (try simp only [ext_ext]); repeat (first | exact Ext.refl _ | with_reducible apply Ext.add | with_reducible apply Ext.dr | apply Ext.alloc | apply Ext.ext | apply Ext.drew | refine Ext.trans ?_ (by assumption))))) (Hid.out (by assumption))).mono ?_; rintro e w' ⟨rfl, t, rfl⟩) | (go_at_call 61; refine (iPlcSide_c _ _ _ _).mono ?_; rintro e w' ⟨rfl, t, rfl⟩)
        | (
          with_reducible refine wp_region_mix (by kernel_rfl) (by decide +kernel) ?_
          repeat (first
            | (refine mix_pure rfl ?_; (first | go_big_quiet_skip | (go_big_quiet_want; go_big_quiet_op; go_big_quiet_on)); refine wpQuiet_nil ?_)
            | (refine mix_skip (by rfl) ?_; (try simp only [Act.put, List.setIfInBounds_toArray, List.set_cons_zero, List.set_cons_succ]))
            | (refine mix_mk rfl (by rfl) (fun K hK => ?_); (first | (go_simp; first | (go_at_call 60; refine (iCllOk_c _ _ _ _ (ReC.of (Hid.out (by assumption)) (by ((try simp only [ext_drew]); (try simp only [ext_ext]); repeat (first | exact Ext.refl _ | with_reducible apply Ext.add | with_reducible apply Ext.dr | apply Ext.alloc | apply Ext.ext | apply Ext.drew | refine Ext.trans ?_ (by assumption))))) (Hid.out (by assumption))).mono ?_; rintro e w' ⟨rfl, t, rfl⟩) | (go_at_call 61; refine (iPlcSide_c _ _ _ _).mono ?_; rintro e w' ⟨rfl, t, rfl⟩) | skip)); (show K _ _); refine hK _ _ (show Ext _ _ from (by ((try simp only [ext_drew]); (try simp only [ext_ext]); repeat (first | exact Ext.refl _ | with_reducible apply Ext.add | with_reducible apply Ext.dr | apply Ext.alloc | apply Ext.ext | apply Ext.drew | refine Ext.trans ?_ (by assumption))))) ?_; clear hK K; (try simp only [Act.put, List.setIfInBounds_toArray, List.set_cons_zero, List.set_cons_succ])))
          refine mix_nil ?_)
        | (
          with_reducible refine wp_region_ext (by kernel_rfl) (by kernel_rfl) ?_
          repeat (first | go_big_quiet_skip | (go_big_quiet_want; go_big_quiet_op; first | go_big_quiet_on | (apply Exists.intro; refine ⟨fun _ => ?_, ?_⟩; ((first | (go_at_call 60; first | exact quiet_call (iCllOk_c _ _ _ _ (ReC.of (Hid.out (by assumption)) (by ((try simp only [ext_drew]); (try simp only [ext_ext]); repeat (first | exact Ext.refl _ | with_reducible apply Ext.add | with_reducible apply Ext.dr | apply Ext.alloc | apply Ext.ext | apply Ext.drew | refine Ext.trans ?_ (by assumption))))) (Hid.out (by assumption))) | exact quiet_call2 (iCllOk_c _ _ _ _ (ReC.of (Hid.out (by assumption)) (by ((try simp only [ext_drew]); (try simp only [ext_ext]); repeat (first | exact Ext.refl _ | with_reducible apply Ext.add | with_reducible apply Ext.dr | apply Ext.alloc | apply Ext.ext | apply Ext.drew | refine Ext.trans ?_ (by assumption))))) (Hid.out (by assumption)))) | (go_at_call 61; first | exact quiet_call (iPlcSide_c _ _ _ _) | exact quiet_call2 (iPlcSide_c _ _ _ _)))); (try rw [h1]); (try rw [h2]); (try rw [h3]); (try rw [h4]); (try rw [p1]); (try rw [p2]); (try rw [p3]); (try rw [p4]); (try rw [r1]); (try rw [r2]); (try rw [r3]); (try rw [r4]); (try rw [r5]); (try rw [r6]); (try rw [q3]); (try rw [q4]); (try rw [hp]); (try rw [hq]); go_big_quiet_on)))
          refine wpQuiet_nil ?_
          rintro _ ⟨tq, rfl⟩))
    refine bodyPost_ret (v := .tuple #[.agg #[.int .i64 0, .slice none 0 0, .int .i64 0, .slice none 0 0, .slice none 0 0, .slice none 0 0], .bool false]) (by simp [results, Try.results29, go_sem]) rfl ?_
    rw [E1.out, E2.out]
    exact ⟨⟨none, 0, none, 0, none, 0, none, 0⟩, rfl, (by ((try simp only [ext_drew]); (try simp only [ext_ext]); repeat (first | exact Ext.refl _ | with_reducible apply Ext.add | with_reducible apply Ext.dr | apply Ext.alloc | apply Ext.ext | apply Ext.drew | refine Ext.trans ?_ (by assumption)))), Nat.le_refl _, [], by simp, by simp, ownL_nil_cll _⟩
  | true =>
    cases q2 : (plcSide m c.cell s == -1) with
    | true =>
      have hbad : ackOkB m c s = false := by simp [ackOkB, q2]
      have q2' : plcSide m c.cell s = -1 := by simpa using q2
      have E1 := hid (show ackV m c s n = cllZ by simp [ackV, hbad])
      have E2 := hid (show ackT m c s n = false by simp [ackT, hbad])
      go_enter Try.func29, Try.ntmps29
      try go_wp2_with (first
          | (go_at_call 60; refine (iCllOk_c _ _ _ _ (ReC.of (Hid.out (by assumption)) (by ((try simp only [ext_drew]); (try simp only [ext_ext]); repeat (first | exact Ext.refl _ | with_reducible apply Ext.add | with_reducible apply Ext.dr | apply Ext.alloc | apply Ext.ext | apply Ext.drew | refine Ext.trans ?_ (by assumption))))) (Hid.out (by assumption))).mono ?_; rintro e w' ⟨rfl, t, rfl⟩) | (go_at_call 61; refine (iPlcSide_c _ _ _ _).mono ?_; rintro e w' ⟨rfl, t, rfl⟩)
          | (
            with_reducible refine wp_region_mix (by kernel_rfl) (by decide +kernel) ?_
            repeat (first
              | (refine mix_pure rfl ?_; (first | go_big_quiet_skip | (go_big_quiet_want; go_big_quiet_op; go_big_quiet_on)); refine wpQuiet_nil ?_)
              | (refine mix_skip (by rfl) ?_; (try simp only [Act.put, List.setIfInBounds_toArray, List.set_cons_zero, List.set_cons_succ]))
              | (refine mix_mk rfl (by rfl) (fun K hK => ?_); (first | (go_simp; first | (go_at_call 60; refine (iCllOk_c _ _ _ _ (ReC.of (Hid.out (by assumption)) (by ((try simp only [ext_drew]); (try simp only [ext_ext]); repeat (first | exact Ext.refl _ | with_reducible apply Ext.add | with_reducible apply Ext.dr | apply Ext.alloc | apply Ext.ext | apply Ext.drew | refine Ext.trans ?_ (by assumption))))) (Hid.out (by assumption))).mono ?_; rintro e w' ⟨rfl, t, rfl⟩) | (go_at_call 61; refine (iPlcSide_c _ _ _ _).mono ?_; rintro e w' ⟨rfl, t, rfl⟩) | skip)); (show K _ _); refine hK _ _ (show Ext _ _ from (by ((try simp only [ext_drew]); (try simp only [ext_ext]); repeat (first | exact Ext.refl _ | with_reducible apply Ext.add | with_reducible apply Ext.dr | apply Ext.alloc | apply Ext.ext | apply Ext.drew | refine Ext.trans ?_ (by assumption))))) ?_; clear hK K; (try simp only [Act.put, List.setIfInBounds_toArray, List.set_cons_zero, List.set_cons_succ])))
            refine mix_nil ?_)
          | (
            with_reducible refine wp_region_ext (by kernel_rfl) (by kernel_rfl) ?_
            repeat (first | go_big_quiet_skip | (go_big_quiet_want; go_big_quiet_op; first | go_big_quiet_on | (apply Exists.intro; refine ⟨fun _ => ?_, ?_⟩; ((first | (go_at_call 60; first | exact quiet_call (iCllOk_c _ _ _ _ (ReC.of (Hid.out (by assumption)) (by ((try simp only [ext_drew]); (try simp only [ext_ext]); repeat (first | exact Ext.refl _ | with_reducible apply Ext.add | with_reducible apply Ext.dr | apply Ext.alloc | apply Ext.ext | apply Ext.drew | refine Ext.trans ?_ (by assumption))))) (Hid.out (by assumption))) | exact quiet_call2 (iCllOk_c _ _ _ _ (ReC.of (Hid.out (by assumption)) (by ((try simp only [ext_drew]); (try simp only [ext_ext]); repeat (first | exact Ext.refl _ | with_reducible apply Ext.add | with_reducible apply Ext.dr | apply Ext.alloc | apply Ext.ext | apply Ext.drew | refine Ext.trans ?_ (by assumption))))) (Hid.out (by assumption)))) | (go_at_call 61; first | exact quiet_call (iPlcSide_c _ _ _ _) | exact quiet_call2 (iPlcSide_c _ _ _ _)))); (try rw [h1]); (try rw [h2]); (try rw [h3]); (try rw [h4]); (try rw [p1]); (try rw [p2]); (try rw [p3]); (try rw [p4]); (try rw [r1]); (try rw [r2]); (try rw [r3]); (try rw [r4]); (try rw [r5]); (try rw [r6]); (try rw [q3]); (try rw [q4]); (try rw [hp]); (try rw [hq]); go_big_quiet_on)))
            refine wpQuiet_nil ?_
            rintro _ ⟨tq, rfl⟩))
      refine bodyPost_ret (v := .tuple #[.agg #[.int .i64 0, .slice none 0 0, .int .i64 0, .slice none 0 0, .slice none 0 0, .slice none 0 0], .bool false]) (by simp [results, Try.results29, go_sem]) rfl ?_
      rw [E1.out, E2.out]
      exact ⟨⟨none, 0, none, 0, none, 0, none, 0⟩, rfl, (by ((try simp only [ext_drew]); (try simp only [ext_ext]); repeat (first | exact Ext.refl _ | with_reducible apply Ext.add | with_reducible apply Ext.dr | apply Ext.alloc | apply Ext.ext | apply Ext.drew | refine Ext.trans ?_ (by assumption)))), Nat.le_refl _, [], by simp, by simp, ownL_nil_cll _⟩
    | false =>
      have hok : ackOkB m c s = true := by simp [ackOkB, q1, q2]
      obtain ⟨k, xs, nx, rfl, hk, hxs, hnx, ho1, hn1, hpl, _, hne⟩ := cll_side hok
      have HS := hid (show c.outs[k]? = some xs ∧ c.next[k]? = some nx ∧ pclListOk m xs nx = true from ⟨hxs, hnx, hpl⟩)
      have HE := hid (show ackV m c k n = (bif ackB nx xs n then ackC c k (pclFrom xs n) else c) ∧ ackT m c k n = ackB nx xs n by
        simp only [ackV, ackT, hok, cond_true, ho1, hn1, Bool.true_and, Int.toNat_natCast, and_self])
      have hxl : xs.length ≤ 1048576 := HB.out.bo xs (List.mem_of_getElem? hxs)
      have HXL := hid hxl
      clear hxs hnx hpl ho1 hn1 hok hne hxl
      go_enter Try.func29, Try.ntmps29
      try go_wp2_with (first
          | (go_at_call 60; (with_reducible refine (iCllOk_c _ _ _ _ (ReC.of HX.out (by ((try simp only [ext_drew]); (try simp only [ext_ext]); repeat (first | exact Ext.refl _ | with_reducible apply Ext.add | with_reducible apply Ext.dr | apply Ext.alloc | apply Ext.ext | apply Ext.drew | refine Ext.trans ?_ (by assumption))))) HB.out).mono ?_); rintro e w' ⟨rfl, ta, rfl⟩) | (go_at_call 61; (with_reducible refine (iPlcSide_c _ _ _ _).mono ?_); rintro e w' ⟨rfl, tb, rfl⟩) | (go_at_call 62; (with_reducible refine (iCllCopy_x c _ _ (ReC.of HX.out (by ((try simp only [ext_drew]); (try simp only [ext_ext]); repeat (first | exact Ext.refl _ | with_reducible apply Ext.add | with_reducible apply Ext.dr | apply Ext.alloc | apply Ext.ext | apply Ext.drew | refine Ext.trans ?_ (by assumption))))) HB.out).mono ?_); rintro e w' ⟨⟨p1, r1, p3, r3, p4, r4, p5, r5⟩, B1, B3, B4, B5, rfl, ⟨t, rfl⟩, hcx, hlo⟩; have HCX := hid hcx; have HLO := hid hlo; clear hcx hlo)
          | (
            with_reducible refine wp_region_mix (by kernel_rfl) (by decide +kernel) ?_
            repeat (first
              | (refine mix_pure rfl ?_; (first | go_big_quiet_skip | (go_big_quiet_want; go_big_quiet_op; go_big_quiet_on)); refine wpQuiet_nil ?_)
              | (refine mix_skip (by rfl) ?_; (try simp only [Act.put, List.setIfInBounds_toArray, List.set_cons_zero, List.set_cons_succ]))
              | (refine mix_mk rfl (by rfl) (fun K hK => ?_); (first | (go_simp; first | (go_at_call 60; (with_reducible refine (iCllOk_c _ _ _ _ (ReC.of HX.out (by ((try simp only [ext_drew]); (try simp only [ext_ext]); repeat (first | exact Ext.refl _ | with_reducible apply Ext.add | with_reducible apply Ext.dr | apply Ext.alloc | apply Ext.ext | apply Ext.drew | refine Ext.trans ?_ (by assumption))))) HB.out).mono ?_); rintro e w' ⟨rfl, ta, rfl⟩) | (go_at_call 61; (with_reducible refine (iPlcSide_c _ _ _ _).mono ?_); rintro e w' ⟨rfl, tb, rfl⟩) | (go_at_call 62; (with_reducible refine (iCllCopy_x c _ _ (ReC.of HX.out (by ((try simp only [ext_drew]); (try simp only [ext_ext]); repeat (first | exact Ext.refl _ | with_reducible apply Ext.add | with_reducible apply Ext.dr | apply Ext.alloc | apply Ext.ext | apply Ext.drew | refine Ext.trans ?_ (by assumption))))) HB.out).mono ?_); rintro e w' ⟨⟨p1, r1, p3, r3, p4, r4, p5, r5⟩, B1, B3, B4, B5, rfl, ⟨t, rfl⟩, hcx, hlo⟩; have HCX := hid hcx; have HLO := hid hlo; clear hcx hlo) | skip)); (show K _ _); refine hK _ _ (show Ext _ _ from (by ((try simp only [ext_drew]); (try simp only [ext_ext]); repeat (first | exact Ext.refl _ | with_reducible apply Ext.add | with_reducible apply Ext.dr | apply Ext.alloc | apply Ext.ext | apply Ext.drew | refine Ext.trans ?_ (by assumption))))) ?_; clear hK K; (try simp only [Act.put, List.setIfInBounds_toArray, List.set_cons_zero, List.set_cons_succ])))
            refine mix_nil ?_)
          | (
            with_reducible refine wp_region_ext (by kernel_rfl) (by kernel_rfl) ?_
            repeat (first | go_big_quiet_skip | (go_big_quiet_want; go_big_quiet_op; first | go_big_quiet_on | (apply Exists.intro; refine ⟨fun _ => ?_, ?_⟩; (fail); (try rw [h1]); (try rw [h2]); (try rw [h3]); (try rw [h4]); (try rw [p1]); (try rw [p2]); (try rw [p3]); (try rw [p4]); (try rw [r1]); (try rw [r2]); (try rw [r3]); (try rw [r4]); (try rw [r5]); (try rw [r6]); (try rw [q3]); (try rw [q4]); (try rw [hp]); (try rw [hq]); go_big_quiet_on)))
            refine wpQuiet_nil ?_
            rintro _ ⟨tq, rfl⟩))
      refine calls_gen fun Y hY => ?_
      generalize hTe : w.heap.size + 1 + 1 + 1 + ((ta.add tb).add t).bs.size = T
      have EY : Ext w Y := by rw [hY]; ((try simp only [ext_drew]); (try simp only [ext_ext]); repeat (first | exact Ext.refl _ | with_reducible apply Ext.add | with_reducible apply Ext.dr | apply Ext.alloc | apply Ext.ext | apply Ext.drew | refine Ext.trans ?_ (by assumption)))
      have hT : Y.heap[T]? = some (.cells #[.int .i64 c.cell, .slice p1 c.wk.length r1, .int .i64 c.ground, .slice p3 c.outs.length r3, .slice p4 c.next.length r4, .slice p5 c.ins.length r5] 39 (0, 0)) := by rw [hY]; exact alloc_last (by rw [← hTe]; ((try simp [go_sem]) <;> (try simp [Xt.add]) <;> omega))
      have hR : Y.heap[w.heap.size + 1 + 1]? = some (.cells #[.int .i64 0, .slice none 0 0, .int .i64 0, .slice none 0 0, .slice none 0 0, .slice none 0 0] 39 (0, 0)) := by rw [hY]; exact blk_alloc (blk_ext (alloc_last (by simp)))
      have HCY := hid (show CX Y c ⟨p1, r1, p3, r3, p4, r4, p5, r5⟩ B1 B3 B4 B5 by rw [hY]; exact HCX.out.of (by ((try simp only [ext_drew]); (try simp only [ext_ext]); repeat (first | exact Ext.refl _ | with_reducible apply Ext.add | with_reducible apply Ext.dr | apply Ext.alloc | apply Ext.ext | apply Ext.drew | refine Ext.trans ?_ (by assumption)))))
      have HTB := hid (show ∀ b ∈ B1 ++ (B3 ++ (B4 ++ B5)), b < T from fun b hb => Nat.lt_of_lt_of_le (HCX.out.lt b hb) (by rw [← hTe]; ((try simp [go_sem]) <;> (try simp [Xt.add]) <;> omega)))
      have HLY := hid (show ∀ b ∈ B1 ++ (B3 ++ (B4 ++ B5)), w.heap.size + 3 ≤ b from fun b hb => Nat.le_trans (by (try simp [go_sem]) <;> (try simp [Xt.add]) <;> omega) (HLO.out b hb))
      have hTw : w.heap.size + 1 + 1 < T := by omega
      clear hY hTe HCX HLO
      have hTB3 : T ∉ B3 := fun hm => by have := HTB.out T (by simp [hm]); omega
      refine (release_c c ⟨p1, r1, p3, r3, p4, r4, p5, r5⟩ T k n nx xs B1 B3 B4 B5 Y hT HCY.out hTB3 HS.out.1 HS.out.2.1 (fun x hx => by have := pcl_first HS.out.2.2 0 x hx; omega) HXL.out).mono ?_
      rintro e Y2 ⟨B3', rfl, hcx, hch, hb3⟩
      obtain ⟨v, hv⟩ : ∃ v, (bif ackB nx xs n then ackC c k (pclFrom xs n) else c) = v := ⟨_, rfl⟩
      obtain ⟨q, hq⟩ : ∃ q, ackB nx xs n = q := ⟨_, rfl⟩
      rw [hv] at hcx
      rw [hq]
      have HV := hid hv
      have HQ := hid hq
      have hvl : c.cell = v.cell ∧ c.wk.length = v.wk.length ∧ c.ground = v.ground ∧ c.outs.length = v.outs.length ∧ c.next.length = v.next.length ∧ c.ins.length = v.ins.length := by
        rw [← hv]; cases ackB nx xs n <;> simp [ackC]
      have HBV := hid (show BdC v by
        rw [← hv]
        cases ackB nx xs n with
        | false => exact HB.out
        | true => exact ⟨HB.out.b1, by simp only [cond_true, ackC, List.length_set]; exact HB.out.b3, fun ys hy => by
            rcases List.mem_or_eq_of_mem_set hy with hy | rfl
            · exact HB.out.bo ys hy
            · exact Nat.le_trans (pclFrom_len xs n) HXL.out, HB.out.b4, HB.out.b5⟩)
      have hT2 := (hch.block T (lt_blk hT) hTB3).trans hT
      rw [hvl.1, hvl.2.1, hvl.2.2.1, hvl.2.2.2.1, hvl.2.2.2.2.1, hvl.2.2.2.2.2] at hT2
      have hR3 : w.heap.size + 1 + 1 ∉ B3 := fun hm => by have := HLY.out _ (show w.heap.size + 1 + 1 ∈ B1 ++ (B3 ++ (B4 ++ B5)) by simp [hm]); omega
      have hR2 := (hch.block _ (lt_blk hR) hR3).trans hR
      have EY2 : Ext w Y2 := Ext.of_below (Below.chg (w0 := w) EY.below hch (fun b hb => by have := HLY.out b (by simp [hb]); omega))
      have HCV := hid hcx
      have cT0 : Y2.cell? ⟨T, 0, none⟩ = some (.int .i64 v.cell) := (cell_blk hT2 0).trans rfl
      have cR0 : Y2.cell? ⟨w.heap.size + 1 + 1, 0, none⟩ = some (.int .i64 0) := (cell_blk hR2 0).trans rfl
      have zR0 := frozen_blk hR2 0
      have cT1 : Y2.cell? ⟨T, 1, none⟩ = some (.slice p1 v.wk.length r1) := (cell_blk hT2 1).trans rfl
      have cR1 : Y2.cell? ⟨w.heap.size + 1 + 1, 1, none⟩ = some (.slice none 0 0) := (cell_blk hR2 1).trans rfl
      have zR1 := frozen_blk hR2 1
      have cT2 : Y2.cell? ⟨T, 2, none⟩ = some (.int .i64 v.ground) := (cell_blk hT2 2).trans rfl
      have cR2 : Y2.cell? ⟨w.heap.size + 1 + 1, 2, none⟩ = some (.int .i64 0) := (cell_blk hR2 2).trans rfl
      have zR2 := frozen_blk hR2 2
      have cT3 : Y2.cell? ⟨T, 3, none⟩ = some (.slice p3 v.outs.length r3) := (cell_blk hT2 3).trans rfl
      have cR3 : Y2.cell? ⟨w.heap.size + 1 + 1, 3, none⟩ = some (.slice none 0 0) := (cell_blk hR2 3).trans rfl
      have zR3 := frozen_blk hR2 3
      have cT4 : Y2.cell? ⟨T, 4, none⟩ = some (.slice p4 v.next.length r4) := (cell_blk hT2 4).trans rfl
      have cR4 : Y2.cell? ⟨w.heap.size + 1 + 1, 4, none⟩ = some (.slice none 0 0) := (cell_blk hR2 4).trans rfl
      have zR4 := frozen_blk hR2 4
      have cT5 : Y2.cell? ⟨T, 5, none⟩ = some (.slice p5 v.ins.length r5) := (cell_blk hT2 5).trans rfl
      have cR5 : Y2.cell? ⟨w.heap.size + 1 + 1, 5, none⟩ = some (.slice none 0 0) := (cell_blk hR2 5).trans rfl
      have zR5 := frozen_blk hR2 5
      have lT2 := lt_blk hT2
      have lR2 := lt_blk hR2
      clear hT2 hR2 hT hR hcx hch hb3 hvl HCY hv hq EY
      try go_wp2_with (first
          | (go_at_call 62; (with_reducible refine (iCllCopy_x v ⟨p1, r1, p3, r3, p4, r4, p5, r5⟩ _ (ReC.of HCV.out.re (by ((try simp only [ext_drew]); (try simp only [ext_ext]); repeat (first | exact Ext.refl _ | with_reducible apply Ext.add | with_reducible apply Ext.dr | apply Ext.alloc | apply Ext.ext | apply Ext.drew | refine Ext.trans ?_ (by assumption))))) HBV.out).mono ?_); rintro e w' ⟨⟨u1, s1, u3, s3, u4, s4, u5, s5⟩, D1, D3, D4, D5, rfl, ⟨t9, rfl⟩, hd, hl⟩; have HD := hid hd; have HL := hid hl; clear hd hl)
          | (
            with_reducible refine wp_region_mix (by kernel_rfl) (by decide +kernel) ?_
            repeat (first
              | (refine mix_pure rfl ?_; (first | go_big_quiet_skip | (go_big_quiet_want; go_big_quiet_op; go_big_quiet_on)); refine wpQuiet_nil ?_)
              | (refine mix_skip (by rfl) ?_; (try simp only [Act.put, List.setIfInBounds_toArray, List.set_cons_zero, List.set_cons_succ]))
              | (refine mix_mk rfl (by rfl) (fun K hK => ?_); (first | (go_simp; first | (go_at_call 62; (with_reducible refine (iCllCopy_x v ⟨p1, r1, p3, r3, p4, r4, p5, r5⟩ _ (ReC.of HCV.out.re (by ((try simp only [ext_drew]); (try simp only [ext_ext]); repeat (first | exact Ext.refl _ | with_reducible apply Ext.add | with_reducible apply Ext.dr | apply Ext.alloc | apply Ext.ext | apply Ext.drew | refine Ext.trans ?_ (by assumption))))) HBV.out).mono ?_); rintro e w' ⟨⟨u1, s1, u3, s3, u4, s4, u5, s5⟩, D1, D3, D4, D5, rfl, ⟨t9, rfl⟩, hd, hl⟩; have HD := hid hd; have HL := hid hl; clear hd hl) | skip)); (show K _ _); refine hK _ _ (show Ext _ _ from (by ((try simp only [ext_drew]); (try simp only [ext_ext]); repeat (first | exact Ext.refl _ | with_reducible apply Ext.add | with_reducible apply Ext.dr | apply Ext.alloc | apply Ext.ext | apply Ext.drew | refine Ext.trans ?_ (by assumption))))) ?_; clear hK K; (try simp only [Act.put, List.setIfInBounds_toArray, List.set_cons_zero, List.set_cons_succ])))
            refine mix_nil ?_)
          | (
            with_reducible refine wp_region_ext (by kernel_rfl) (by kernel_rfl) ?_
            repeat (first | go_big_quiet_skip | (go_big_quiet_want; go_big_quiet_op; first | go_big_quiet_on | (apply Exists.intro; refine ⟨fun _ => ?_, ?_⟩; (fail); (try rw [h1]); (try rw [h2]); (try rw [h3]); (try rw [h4]); (try rw [p1]); (try rw [p2]); (try rw [p3]); (try rw [p4]); (try rw [r1]); (try rw [r2]); (try rw [r3]); (try rw [r4]); (try rw [r5]); (try rw [r6]); (try rw [q3]); (try rw [q4]); (try rw [hp]); (try rw [hq]); go_big_quiet_on)))
            refine wpQuiet_nil ?_
            rintro _ ⟨tq, rfl⟩))
      refine bodyPost_ret (v := .tuple #[.agg #[.int .i64 v.cell, .slice u1 v.wk.length s1, .int .i64 v.ground, .slice u3 v.outs.length s3, .slice u4 v.next.length s4, .slice u5 v.ins.length s5], .bool q]) (by simp [results, Try.results29, go_sem, cR0, cR1, cR2, cR3, cR4, cR5, lR2]) rfl ?_
      rw [HE.out.1, HE.out.2, HV.out, HQ.out]
      have hdl : ∀ b ∈ D1 ++ (D3 ++ (D4 ++ D5)), w.heap.size + 1 + 1 < b := fun b hb => Nat.lt_of_lt_of_le lR2 (HL.out b hb)
      exact ⟨⟨u1, s1, u3, s3, u4, s4, u5, s5⟩, rfl, Ext.of_below (Below.chg (w0 := w) EY2.below (B := [w.heap.size + 1 + 1]) (by repeat (first | with_reducible exact Chg.refl _ _ | with_reducible apply Chg.drew | with_reducible apply Chg.drewl | with_reducible refine Chg.turn (by simp) | with_reducible refine Chg.both ?_ (by simp) | (with_reducible refine Chg.set ?_ (by simp) _) | with_reducible apply Chg.alloc | with_reducible apply Chg.ext)) (by simp; omega)), (HD.out.fin HL.out (by ((try simp only [ext_drew]); (try simp only [ext_ext]); repeat (first | exact Ext.refl _ | with_reducible apply Ext.add | with_reducible apply Ext.dr | apply Ext.alloc | apply Ext.ext | apply Ext.drew | refine Ext.trans ?_ (by assumption)))) (by simp)).own (fun b hb => by have := hdl b hb; omega)⟩
set_option maxRecDepth 100000 in
set_option maxHeartbeats 8000000 in
theorem l5Ack_c (c : Cll) (h : CllH) (k : Nat) (n nx : Int) (xs : List Pcl) (w : World) (hx : ReC w c h) (hb : BdC c) (hxs : c.outs[k]? = some xs) (hnx : c.next[k]? = some nx) (n0 : 0 ≤ nx) (n1 : nx ≤ 5000) :
    Calls Try.prog 57 #[.agg #[.int .i64 c.cell, .slice h.a1 c.wk.length h.c1, .int .i64 c.ground, .slice h.a3 c.outs.length h.c3, .slice h.a4 c.next.length h.c4, .slice h.a5 c.ins.length h.c5], .int .i64 k, .int .i64 n] w (MadeCV w (bif ackB nx xs n then ackC c k (pclFrom xs n) else c) (.bool (ackB nx xs n))) := by
  have HX := hid hx
  have HB := hid hb
  have HS := hid (show c.outs[k]? = some xs ∧ c.next[k]? = some nx from ⟨hxs, hnx⟩)
  have HXL := hid (show xs.length ≤ 1048576 from hb.bo xs (List.mem_of_getElem? hxs))
  clear hx hb hxs hnx
  go_enter Try.func57, Try.ntmps57
  go_wp2_with (go_at_call 76; (with_reducible refine (sCllCopy_x c _ _ (ReC.of HX.out (by ((try simp only [ext_drew]); (try simp only [ext_ext]); repeat (first | exact Ext.refl _ | with_reducible apply Ext.add | with_reducible apply Ext.dr | apply Ext.alloc | apply Ext.ext | apply Ext.drew | refine Ext.trans ?_ (by assumption))))) HB.out).mono ?_); rintro e w' ⟨⟨p1, r1, p3, r3, p4, r4, p5, r5⟩, B1, B3, B4, B5, rfl, ⟨t, rfl⟩, hcx, hlo⟩; have HCX := hid hcx; have HLO := hid hlo; clear hcx hlo)
  refine wp_gen fun Y hY => ?_
  generalize hTe : w.heap.size + 1 + 1 + t.bs.size = T
  have EY : Ext w Y := by rw [hY]; ((try simp only [ext_drew]); (try simp only [ext_ext]); repeat (first | exact Ext.refl _ | with_reducible apply Ext.add | with_reducible apply Ext.dr | apply Ext.alloc | apply Ext.ext | apply Ext.drew | refine Ext.trans ?_ (by assumption)))
  have hT : Y.heap[T]? = some (.cells #[.int .i64 c.cell, .slice p1 c.wk.length r1, .int .i64 c.ground, .slice p3 c.outs.length r3, .slice p4 c.next.length r4, .slice p5 c.ins.length r5] 39 (0, 0)) := by rw [hY]; exact alloc_last (by rw [← hTe]; ((try simp [go_sem]) <;> (try simp [Xt.add]) <;> omega))
  have hR : Y.heap[w.heap.size + 1]? = some (.cells #[.int .i64 0, .slice none 0 0, .int .i64 0, .slice none 0 0, .slice none 0 0, .slice none 0 0] 39 (0, 0)) := by rw [hY]; exact blk_alloc (blk_ext (alloc_last (by simp)))
  have HCY := hid (show CX Y c ⟨p1, r1, p3, r3, p4, r4, p5, r5⟩ B1 B3 B4 B5 by rw [hY]; exact HCX.out.of (by ((try simp only [ext_drew]); (try simp only [ext_ext]); repeat (first | exact Ext.refl _ | with_reducible apply Ext.add | with_reducible apply Ext.dr | apply Ext.alloc | apply Ext.ext | apply Ext.drew | refine Ext.trans ?_ (by assumption)))))
  have HTB := hid (show ∀ b ∈ B1 ++ (B3 ++ (B4 ++ B5)), b < T from fun b hb => Nat.lt_of_lt_of_le (HCX.out.lt b hb) (by rw [← hTe]; ((try simp [go_sem]) <;> (try simp [Xt.add]) <;> omega)))
  have HLY := hid (show ∀ b ∈ B1 ++ (B3 ++ (B4 ++ B5)), w.heap.size + 2 ≤ b from fun b hb => Nat.le_trans (by (try simp [go_sem]) <;> (try simp [Xt.add]) <;> omega) (HLO.out b hb))
  have hTw : w.heap.size + 1 < T := by omega
  clear hY hTe HCX HLO
  have hs3 : k < c.outs.length := (List.getElem?_eq_some_iff.1 HS.out.1).1
  have hs4 : k < c.next.length := (List.getElem?_eq_some_iff.1 HS.out.2).1
  obtain ⟨g4, cur4, y4, e4, hB4, hl4, hc4, hy4, hb4, hz4, hv4, hu4⟩ := HCY.out.x4.at Nat.one_pos (fun _ => rfl) hs4
  rw [HS.out.2] at hy4
  obtain rfl := Option.some.inj hy4
  obtain ⟨g3, cur3, e, ys, Bj, e3, hg3, hl3, hc3, hys, hb3, hz3, hv3, hre, hBj, hu3⟩ := HCY.out.x3.at hs3
  rw [HS.out.1] at hys
  obtain rfl := Option.some.inj hys
  dsimp only at e3 e4
  subst e3 e4
  have hen := hre.len
  obtain ⟨ea, en, ec⟩ := e
  dsimp only at hen hv3 hre
  subst hen
  have f4 : Y.cell? ⟨g4, k, none⟩ = some (.int .i64 nx) := (cell_blk hb4 k).trans (by have := hv4 0 _ rfl; simpa using this)
  have f3 : Y.cell? ⟨g3, k, none⟩ = some (.slice ea xs.length ec) := (cell_blk hb3 k).trans hv3
  have z3 := frozen_blk hb3 k
  have l4 := lt_blk hb4
  have l3 := lt_blk hb3
  have HRe := hid (show Re Y (.sl sPcl) [.slice ea xs.length ec] (.l (xs.map Pcl.dat)) from (hre.own (k := 8) rfl (fun w x => own_Pcl_mk w x)).re hre.lt)
  have HU3 := hid hu3
  have HB3 := hid hb3
  have hg3T : g3 ≠ T := fun e => by have := HTB.out g3 (by simp [hg3]); omega
  have HG := hid (show g3 ∈ B3 ∧ (∀ b ∈ Bj, b ∈ B3 ∧ b ≠ g3) from ⟨hg3, hBj⟩)
  have hm := HCY.out.x3.max
  have hm4 := HCY.out.x4.max
  simp only [maxLen] at hm hm4
  clear hu3 hu4 hb3 hb4 hv3 hv4 hre hBj hg3 hB4
  have cT0 : Y.cell? ⟨T, 0, none⟩ = some (.int .i64 c.cell) := (cell_blk hT 0).trans rfl
  have cR0 : Y.cell? ⟨w.heap.size + 1, 0, none⟩ = some (.int .i64 0) := (cell_blk hR 0).trans rfl
  have zR0 := frozen_blk hR 0
  have cT1 : Y.cell? ⟨T, 1, none⟩ = some (.slice p1 c.wk.length r1) := (cell_blk hT 1).trans rfl
  have cR1 : Y.cell? ⟨w.heap.size + 1, 1, none⟩ = some (.slice none 0 0) := (cell_blk hR 1).trans rfl
  have zR1 := frozen_blk hR 1
  have cT2 : Y.cell? ⟨T, 2, none⟩ = some (.int .i64 c.ground) := (cell_blk hT 2).trans rfl
  have cR2 : Y.cell? ⟨w.heap.size + 1, 2, none⟩ = some (.int .i64 0) := (cell_blk hR 2).trans rfl
  have zR2 := frozen_blk hR 2
  have cT3 : Y.cell? ⟨T, 3, none⟩ = some (.slice (some ⟨g3, 0, none⟩) c.outs.length r3) := (cell_blk hT 3).trans rfl
  have cR3 : Y.cell? ⟨w.heap.size + 1, 3, none⟩ = some (.slice none 0 0) := (cell_blk hR 3).trans rfl
  have zR3 := frozen_blk hR 3
  have cT4 : Y.cell? ⟨T, 4, none⟩ = some (.slice (some ⟨g4, 0, none⟩) c.next.length r4) := (cell_blk hT 4).trans rfl
  have cR4 : Y.cell? ⟨w.heap.size + 1, 4, none⟩ = some (.slice none 0 0) := (cell_blk hR 4).trans rfl
  have zR4 := frozen_blk hR 4
  have cT5 : Y.cell? ⟨T, 5, none⟩ = some (.slice p5 c.ins.length r5) := (cell_blk hT 5).trans rfl
  have cR5 : Y.cell? ⟨w.heap.size + 1, 5, none⟩ = some (.slice none 0 0) := (cell_blk hR 5).trans rfl
  have zR5 := frozen_blk hR 5
  have lT := lt_blk hT
  have lR := lt_blk hR
  have HHT := hid hT
  have HHR := hid hR
  clear hT hR
  have hxl := HXL.out
  by_cases t1 : nx < n
  · have E := hid (show ackB nx xs n = false by simp [ackB]; omega)
    try go_wp2_with (first
        | fail
        | (
          with_reducible refine wp_region_mix (by kernel_rfl) (by decide +kernel) ?_
          repeat (first
            | (refine mix_pure rfl ?_; (first | go_big_quiet_skip | (go_big_quiet_want; go_big_quiet_op; go_big_quiet_on)); refine wpQuiet_nil ?_)
            | (refine mix_skip (by rfl) ?_; (try simp only [Act.put, List.setIfInBounds_toArray, List.set_cons_zero, List.set_cons_succ]))
            | (refine mix_mk rfl (by rfl) (fun K hK => ?_); (first | (go_simp; first | skip)); (show K _ _); refine hK _ _ (show Ext _ _ from (by ((try simp only [ext_drew]); (try simp only [ext_ext]); repeat (first | exact Ext.refl _ | with_reducible apply Ext.add | with_reducible apply Ext.dr | apply Ext.alloc | apply Ext.ext | apply Ext.drew | refine Ext.trans ?_ (by assumption))))) ?_; clear hK K; (try simp only [Act.put, List.setIfInBounds_toArray, List.set_cons_zero, List.set_cons_succ])))
          refine mix_nil ?_)
        | (
          with_reducible refine wp_region_ext (by kernel_rfl) (by kernel_rfl) ?_
          repeat (first | go_big_quiet_skip | (go_big_quiet_want; go_big_quiet_op; first | go_big_quiet_on | (apply Exists.intro; refine ⟨fun _ => ?_, ?_⟩; (fail); (try rw [h1]); (try rw [h2]); (try rw [h3]); (try rw [h4]); (try rw [p1]); (try rw [p2]); (try rw [p3]); (try rw [p4]); (try rw [r1]); (try rw [r2]); (try rw [r3]); (try rw [r4]); (try rw [r5]); (try rw [r6]); (try rw [q3]); (try rw [q4]); (try rw [hp]); (try rw [hq]); go_big_quiet_on)))
          refine wpQuiet_nil ?_
          rintro _ ⟨tq, rfl⟩))
    refine bodyPost_ret (v := .tuple #[.agg #[.int .i64 c.cell, .slice p1 c.wk.length r1, .int .i64 c.ground, .slice (some ⟨g3, 0, none⟩) c.outs.length r3, .slice (some ⟨g4, 0, none⟩) c.next.length r4, .slice p5 c.ins.length r5], .bool false]) (by simp [results, Try.results57, go_sem, cR0, cR1, cR2, cR3, cR4, cR5, lR]) rfl ?_
    rw [E.out]
    exact ⟨⟨p1, r1, some ⟨g3, 0, none⟩, r3, some ⟨g4, 0, none⟩, r4, p5, r5⟩, rfl, Ext.of_below (Below.chg (w0 := w) (Ext.below EY) (B := [w.heap.size + 1]) (by repeat (first | with_reducible exact Chg.refl _ _ | with_reducible apply Chg.drew | with_reducible apply Chg.drewl | with_reducible refine Chg.turn (by simp) | with_reducible refine Chg.both ?_ (by simp) | (with_reducible refine Chg.set ?_ (by simp) _) | with_reducible apply Chg.alloc | with_reducible apply Chg.ext)) (by simp)), (HCY.out.chg (B' := [w.heap.size + 1]) (by repeat (first | with_reducible exact Chg.refl _ _ | with_reducible apply Chg.drew | with_reducible apply Chg.drewl | with_reducible refine Chg.turn (by simp) | with_reducible refine Chg.both ?_ (by simp) | (with_reducible refine Chg.set ?_ (by simp) _) | with_reducible apply Chg.alloc | with_reducible apply Chg.ext)) (fun b hb => by have := HLY.out b hb; simp; omega)).own (fun b hb => by have := HLY.out b hb; omega)⟩
  · by_cases t2 : n ≤ nx - xs.length
    · have E := hid (show ackB nx xs n = false by simp [ackB]; omega)
      try go_wp2_with (first
          | fail
          | (
            with_reducible refine wp_region_mix (by kernel_rfl) (by decide +kernel) ?_
            repeat (first
              | (refine mix_pure rfl ?_; (first | go_big_quiet_skip | (go_big_quiet_want; go_big_quiet_op; go_big_quiet_on)); refine wpQuiet_nil ?_)
              | (refine mix_skip (by rfl) ?_; (try simp only [Act.put, List.setIfInBounds_toArray, List.set_cons_zero, List.set_cons_succ]))
              | (refine mix_mk rfl (by rfl) (fun K hK => ?_); (first | (go_simp; first | skip)); (show K _ _); refine hK _ _ (show Ext _ _ from (by ((try simp only [ext_drew]); (try simp only [ext_ext]); repeat (first | exact Ext.refl _ | with_reducible apply Ext.add | with_reducible apply Ext.dr | apply Ext.alloc | apply Ext.ext | apply Ext.drew | refine Ext.trans ?_ (by assumption))))) ?_; clear hK K; (try simp only [Act.put, List.setIfInBounds_toArray, List.set_cons_zero, List.set_cons_succ])))
            refine mix_nil ?_)
          | (
            with_reducible refine wp_region_ext (by kernel_rfl) (by kernel_rfl) ?_
            repeat (first | go_big_quiet_skip | (go_big_quiet_want; go_big_quiet_op; first | go_big_quiet_on | (apply Exists.intro; refine ⟨fun _ => ?_, ?_⟩; (fail); (try rw [h1]); (try rw [h2]); (try rw [h3]); (try rw [h4]); (try rw [p1]); (try rw [p2]); (try rw [p3]); (try rw [p4]); (try rw [r1]); (try rw [r2]); (try rw [r3]); (try rw [r4]); (try rw [r5]); (try rw [r6]); (try rw [q3]); (try rw [q4]); (try rw [hp]); (try rw [hq]); go_big_quiet_on)))
            refine wpQuiet_nil ?_
            rintro _ ⟨tq, rfl⟩))
      refine bodyPost_ret (v := .tuple #[.agg #[.int .i64 c.cell, .slice p1 c.wk.length r1, .int .i64 c.ground, .slice (some ⟨g3, 0, none⟩) c.outs.length r3, .slice (some ⟨g4, 0, none⟩) c.next.length r4, .slice p5 c.ins.length r5], .bool false]) (by simp [results, Try.results57, go_sem, cR0, cR1, cR2, cR3, cR4, cR5, lR]) rfl ?_
      rw [E.out]
      exact ⟨⟨p1, r1, some ⟨g3, 0, none⟩, r3, some ⟨g4, 0, none⟩, r4, p5, r5⟩, rfl, Ext.of_below (Below.chg (w0 := w) (Ext.below EY) (B := [w.heap.size + 1]) (by repeat (first | with_reducible exact Chg.refl _ _ | with_reducible apply Chg.drew | with_reducible apply Chg.drewl | with_reducible refine Chg.turn (by simp) | with_reducible refine Chg.both ?_ (by simp) | (with_reducible refine Chg.set ?_ (by simp) _) | with_reducible apply Chg.alloc | with_reducible apply Chg.ext)) (by simp)), (HCY.out.chg (B' := [w.heap.size + 1]) (by repeat (first | with_reducible exact Chg.refl _ _ | with_reducible apply Chg.drew | with_reducible apply Chg.drewl | with_reducible refine Chg.turn (by simp) | with_reducible refine Chg.both ?_ (by simp) | (with_reducible refine Chg.set ?_ (by simp) _) | with_reducible apply Chg.alloc | with_reducible apply Chg.ext)) (fun b hb => by have := HLY.out b hb; simp; omega)).own (fun b hb => by have := HLY.out b hb; omega)⟩
    · have E := hid (show ackB nx xs n = true by simp [ackB]; omega)
      try go_wp2_with (first
          | fail
          | (
            with_reducible refine wp_region_mix (by kernel_rfl) (by decide +kernel) ?_
            repeat (first
              | (refine mix_pure rfl ?_; (first | go_big_quiet_skip | (go_big_quiet_want; go_big_quiet_op; go_big_quiet_on)); refine wpQuiet_nil ?_)
              | (refine mix_skip (by rfl) ?_; (try simp only [Act.put, List.setIfInBounds_toArray, List.set_cons_zero, List.set_cons_succ]))
              | (refine mix_mk rfl (by rfl) (fun K hK => ?_); (first | (go_simp; first | skip)); (show K _ _); refine hK _ _ (show Ext _ _ from (by ((try simp only [ext_drew]); (try simp only [ext_ext]); repeat (first | exact Ext.refl _ | with_reducible apply Ext.add | with_reducible apply Ext.dr | apply Ext.alloc | apply Ext.ext | apply Ext.drew | refine Ext.trans ?_ (by assumption))))) ?_; clear hK K; (try simp only [Act.put, List.setIfInBounds_toArray, List.set_cons_zero, List.set_cons_succ])))
            refine mix_nil ?_)
          | (
            with_reducible refine wp_region_ext (by kernel_rfl) (by kernel_rfl) ?_
            repeat (first | go_big_quiet_skip | (go_big_quiet_want; go_big_quiet_op; first | go_big_quiet_on | (apply Exists.intro; refine ⟨fun _ => ?_, ?_⟩; (fail); (try rw [h1]); (try rw [h2]); (try rw [h3]); (try rw [h4]); (try rw [p1]); (try rw [p2]); (try rw [p3]); (try rw [p4]); (try rw [r1]); (try rw [r2]); (try rw [r3]); (try rw [r4]); (try rw [r5]); (try rw [r6]); (try rw [q3]); (try rw [q4]); (try rw [hp]); (try rw [hq]); go_big_quiet_on)))
            refine wpQuiet_nil ?_
            rintro _ ⟨tq, rfl⟩))
      refine wp_gen fun V hV => ?_
      have EV : Ext Y V := by rw [hV]; ((try simp only [ext_drew]); (try simp only [ext_ext]); repeat (first | exact Ext.refl _ | with_reducible apply Ext.add | with_reducible apply Ext.dr | apply Ext.alloc | apply Ext.ext | apply Ext.drew | refine Ext.trans ?_ (by assumption)))
      have lTV : T < V.heap.size := Nat.lt_of_lt_of_le lT EV.size
      have lRV : w.heap.size + 1 < V.heap.size := Nat.lt_of_lt_of_le lR EV.size
      have l3V : g3 < V.heap.size := Nat.lt_of_lt_of_le l3 EV.size
      have dT0 := (World.cell?_of_block (a := ⟨T, 0, none⟩) (EV.block lT)).trans cT0
      have dR0 := (World.cell?_of_block (a := ⟨w.heap.size + 1, 0, none⟩) (EV.block lR)).trans cR0
      have dT1 := (World.cell?_of_block (a := ⟨T, 1, none⟩) (EV.block lT)).trans cT1
      have dR1 := (World.cell?_of_block (a := ⟨w.heap.size + 1, 1, none⟩) (EV.block lR)).trans cR1
      have dT2 := (World.cell?_of_block (a := ⟨T, 2, none⟩) (EV.block lT)).trans cT2
      have dR2 := (World.cell?_of_block (a := ⟨w.heap.size + 1, 2, none⟩) (EV.block lR)).trans cR2
      have dT3 := (World.cell?_of_block (a := ⟨T, 3, none⟩) (EV.block lT)).trans cT3
      have dR3 := (World.cell?_of_block (a := ⟨w.heap.size + 1, 3, none⟩) (EV.block lR)).trans cR3
      have dT4 := (World.cell?_of_block (a := ⟨T, 4, none⟩) (EV.block lT)).trans cT4
      have dR4 := (World.cell?_of_block (a := ⟨w.heap.size + 1, 4, none⟩) (EV.block lR)).trans cR4
      have dT5 := (World.cell?_of_block (a := ⟨T, 5, none⟩) (EV.block lT)).trans cT5
      have dR5 := (World.cell?_of_block (a := ⟨w.heap.size + 1, 5, none⟩) (EV.block lR)).trans cR5
      have bR := (EV.block lR).trans HHR.out
      have yR0 := frozen_blk bR 0
      have yR1 := frozen_blk bR 1
      have yR2 := frozen_blk bR 2
      have yR3 := frozen_blk bR 3
      have yR4 := frozen_blk bR 4
      have yR5 := frozen_blk bR 5
      have b3 := (EV.block l3).trans HB3.out
      have f3V : V.cell? ⟨g3, k, none⟩ = some (.slice ea xs.length ec) := (World.cell?_of_block (a := ⟨g3, k, none⟩) (EV.block l3)).trans f3
      have z3V := frozen_blk b3 k
      have HB3V := hid b3
      have HReV := hid (HRe.out.of EV)
      have HCV := hid (HCY.out.of EV)
      have hsz := EV.size
      have EWV : Ext w V := EY.trans EV
      have HEV := hid EV
      clear hV bR b3 cT0 cT1 cT2 cT3 cT4 cT5 cR0 cR1 cR2 cR3 cR4 cR5 zR0 zR1 zR2 zR3 zR4 zR5 f3 f4 z3 l3 lT lR HHT HHR HRe EV EY l4
      obtain ⟨R, hR⟩ : ∃ R, V.heap.size + 1 = R := ⟨_, rfl⟩
      have hTR : T ≠ R := by omega
      have hgR : g3 ≠ R := by omega
      have hRT : R ≠ T := by omega
      have hRg : R ≠ g3 := by omega
      have HRx := hid hR
      clear hR
      have dG : ∀ t, (ext V.drew t).cell? ⟨g3, k, none⟩ = some (.slice ea xs.length ec) := fun t => (ext_cell' _ _ _ _ l3V).trans f3V
      have dZ : ∀ t, (ext V.drew t).frozen? ⟨g3, k, none⟩ = false := fun t => (ext_frozen' _ _ _ _ l3V).trans z3V
      with_reducible refine wp_region_NR (R) (by kernel_rfl) (by decide +kernel) (by decide +kernel) rfl rfl ?_
      simp only [List.dropLast_cons_cons, List.dropLast_singleton]
      repeat (first
        | (refine mix_pure rfl ?_; (first | go_big_quiet_skip | (go_big_quiet_want; go_big_quiet_op; go_big_quiet_on)); refine wpQuiet_nil ?_)
        | (refine mix_skip (by rfl) ?_; (try simp only [Act.put, List.setIfInBounds_toArray, List.set_cons_zero, List.set_cons_succ]))
        | (refine mix_mk rfl (by rfl) (fun K hK => ?_); (first | (go_simp; first | (go_at_call 77; (with_reducible refine (sPclFrom_x xs _ _ _ _ _ (HReV.out.of (by ((try simp only [ext_drew]); (try simp only [ext_ext]); repeat (first | exact Ext.refl _ | with_reducible apply Ext.add | with_reducible apply Ext.dr | apply Ext.alloc | apply Ext.ext | apply Ext.drew | refine Ext.trans ?_ (by assumption))))) (by omega)).mono ?_); rintro e w' ⟨p6, q6, B6, rfl, ⟨t6, rfl⟩, hr6, hb6⟩; have X6 := hid hr6; have Y6 := hid hb6; clear hr6 hb6) | skip)); (show K _ _); refine hK _ _ (extR_of (by repeat (first | with_reducible exact Chg.refl _ _ | with_reducible apply Chg.drew | with_reducible apply Chg.drewl | with_reducible refine Chg.turn (by simp) | with_reducible refine Chg.both ?_ (by simp) | (with_reducible refine Chg.set ?_ (by simp) _) | with_reducible apply Chg.alloc | with_reducible apply Chg.ext | with_reducible refine Chg.trans ?_ (Hid.out (by assumption))))) ?_; clear hK K; (try simp only [Act.put, List.setIfInBounds_toArray, List.set_cons_zero, List.set_cons_succ])))
      refine mixN_nil (fun K hK => ?_)
      go_simp
      (show K _ _)
      refine hK _ _ ?_
      clear hK K
      (try simp only [Act.put, List.setIfInBounds_toArray, List.set_cons_zero, List.set_cons_succ])
      simp only [Exit.then]
      rename_i hKont
      refine hKont _ _ ?_
      clear hKont
      refine wp_gen fun V2 hV2 => ?_
      have hch : Chg [g3] V V2 := by rw [hV2]; exact (by repeat (first | with_reducible exact Chg.refl _ _ | with_reducible apply Chg.drew | with_reducible apply Chg.drewl | with_reducible refine Chg.turn (by simp) | with_reducible refine Chg.both ?_ (by simp) | (with_reducible refine Chg.set ?_ (by simp) _) | with_reducible apply Chg.alloc | with_reducible apply Chg.ext))
      have hb3n : V2.heap[g3]? = some (.cells (cur3.setIfInBounds k (.slice p6 (pclFrom xs n).length q6)) 69 (0, 0)) := by rw [hV2]; exact blk_set (blk_ext HB3V.out)
      have hx6 : RowX V2 95 8 Pcl.cells (.slice p6 (pclFrom xs n).length q6) (pclFrom xs n) B6 := by
        rw [hV2]
        exact X6.out.chg (B' := [g3]) (by repeat (first | with_reducible exact Chg.refl _ _ | with_reducible apply Chg.drew | with_reducible apply Chg.drewl | with_reducible refine Chg.turn (by simp) | with_reducible refine Chg.both ?_ (by simp) | (with_reducible refine Chg.set ?_ (by simp) _) | with_reducible apply Chg.alloc | with_reducible apply Chg.ext)) (fun b9 hb9 => by have := Y6.out b9 hb9; simp; have h8 : V.drew.heap.size = V.heap.size := rfl; omega)
      have hTg3 : T ∉ [g3] := by simp; omega
      have hRg3 : w.heap.size + 1 ∉ [g3] := by have := HLY.out g3 (by simp [HG.out.1]); simp; omega
      clear hV2
      have uT0 := (hch.cell lTV hTg3 0).trans dT0
      have uR0 := (hch.cell lRV hRg3 0).trans dR0
      have vR0 := (Chg.frozen hch lRV hRg3 0).trans yR0
      have uT1 := (hch.cell lTV hTg3 1).trans dT1
      have uR1 := (hch.cell lRV hRg3 1).trans dR1
      have vR1 := (Chg.frozen hch lRV hRg3 1).trans yR1
      have uT2 := (hch.cell lTV hTg3 2).trans dT2
      have uR2 := (hch.cell lRV hRg3 2).trans dR2
      have vR2 := (Chg.frozen hch lRV hRg3 2).trans yR2
      have uT3 := (hch.cell lTV hTg3 3).trans dT3
      have uR3 := (hch.cell lRV hRg3 3).trans dR3
      have vR3 := (Chg.frozen hch lRV hRg3 3).trans yR3
      have uT4 := (hch.cell lTV hTg3 4).trans dT4
      have uR4 := (hch.cell lRV hRg3 4).trans dR4
      have vR4 := (Chg.frozen hch lRV hRg3 4).trans yR4
      have uT5 := (hch.cell lTV hTg3 5).trans dT5
      have uR5 := (hch.cell lRV hRg3 5).trans dR5
      have vR5 := (Chg.frozen hch lRV hRg3 5).trans yR5
      have lTU := Nat.lt_of_lt_of_le lTV hch.size
      have lRU := Nat.lt_of_lt_of_le lRV hch.size
      obtain ⟨B2, hss, hb2⟩ := HU3.out V2 B6 ⟨p6, (pclFrom xs n).length, q6⟩ (pclFrom xs n) (((Chg.of_ext HEV.out [g3]).trans hch).mono (by simp)) hb3n hx6 (.inr fun b9 hb9 => Nat.le_trans hsz (Y6.out b9 hb9))
      have hb3 : ∀ b9 ∈ B2, b9 ∈ B3 ∨ Y.heap.size ≤ b9 := fun b9 hb9 => (hb2 b9 hb9).imp id (fun h9 => Nat.le_trans hsz (Y6.out b9 h9))
      have hcv : CX V2 (ackC c k (pclFrom xs n)) ⟨p1, r1, some ⟨g3, 0, none⟩, r3, some ⟨g4, 0, none⟩, r4, p5, r5⟩ B1 B2 B4 B5 := (HCY.out.of HEV.out).setOuts (hch.mono (by simpa using HG.out.1)) (by rw [List.length_set]; exact hss) (fun b9 hb9 => (hb2 b9 hb9).imp id (fun h9 => Y6.out b9 h9))
      have HCV2 := hid hcv
      have HB2 := hid hb3
      have EW2 : Ext w V2 := Ext.of_below (Below.chg (w0 := w) EWV.below hch (fun b hb => by
        obtain rfl : b = g3 := by simpa using hb
        have := HLY.out b (by simp [HG.out.1]); omega))
      have lYV : Y.heap.size ≤ V2.heap.size := Nat.le_trans hsz hch.size
      have lRY : w.heap.size + 1 < Y.heap.size := by have := HCY.out.lt g3 (by simp [HG.out.1]); have := HLY.out g3 (by simp [HG.out.1]); omega
      clear hss hb2 hb3 hcv hch hb3n hx6
      try go_wp2_with (first
          | fail
          | (
            with_reducible refine wp_region_mix (by kernel_rfl) (by decide +kernel) ?_
            repeat (first
              | (refine mix_pure rfl ?_; (first | go_big_quiet_skip | (go_big_quiet_want; go_big_quiet_op; go_big_quiet_on)); refine wpQuiet_nil ?_)
              | (refine mix_skip (by rfl) ?_; (try simp only [Act.put, List.setIfInBounds_toArray, List.set_cons_zero, List.set_cons_succ]))
              | (refine mix_mk rfl (by rfl) (fun K hK => ?_); (first | (go_simp; first | skip)); (show K _ _); refine hK _ _ (show Ext _ _ from (by ((try simp only [ext_drew]); (try simp only [ext_ext]); repeat (first | exact Ext.refl _ | with_reducible apply Ext.add | with_reducible apply Ext.dr | apply Ext.alloc | apply Ext.ext | apply Ext.drew | refine Ext.trans ?_ (by assumption))))) ?_; clear hK K; (try simp only [Act.put, List.setIfInBounds_toArray, List.set_cons_zero, List.set_cons_succ])))
            refine mix_nil ?_)
          | (
            with_reducible refine wp_region_ext (by kernel_rfl) (by kernel_rfl) ?_
            repeat (first | go_big_quiet_skip | (go_big_quiet_want; go_big_quiet_op; first | go_big_quiet_on | (apply Exists.intro; refine ⟨fun _ => ?_, ?_⟩; (fail); (try rw [h1]); (try rw [h2]); (try rw [h3]); (try rw [h4]); (try rw [p1]); (try rw [p2]); (try rw [p3]); (try rw [p4]); (try rw [r1]); (try rw [r2]); (try rw [r3]); (try rw [r4]); (try rw [r5]); (try rw [r6]); (try rw [q3]); (try rw [q4]); (try rw [hp]); (try rw [hq]); go_big_quiet_on)))
            refine wpQuiet_nil ?_
            rintro _ ⟨tq, rfl⟩))
      refine bodyPost_ret (v := .tuple #[.agg #[.int .i64 c.cell, .slice p1 c.wk.length r1, .int .i64 c.ground, .slice (some ⟨g3, 0, none⟩) c.outs.length r3, .slice (some ⟨g4, 0, none⟩) c.next.length r4, .slice p5 c.ins.length r5], .bool true]) (by simp [results, Try.results57, go_sem, uR0, uR1, uR2, uR3, uR4, uR5, lRU]) rfl ?_
      rw [E.out]
      have hlo : ∀ b ∈ B1 ++ (B2 ++ (B4 ++ B5)), w.heap.size + 1 < b := fun b hb => by
        rcases List.mem_append.1 hb with h9 | h9
        · have := HLY.out b (by simp [h9]); omega
        · rcases List.mem_append.1 h9 with h9 | h9
          · rcases HB2.out b h9 with h8 | h8
            · have := HLY.out b (by simp [h8]); omega
            · omega
          · have := HLY.out b (by simp only [List.mem_append] at h9 ⊢; exact .inr (.inr h9)); omega
      exact ⟨⟨p1, r1, some ⟨g3, 0, none⟩, r3, some ⟨g4, 0, none⟩, r4, p5, r5⟩, by simp only [cond_true, ackC, List.length_set], Ext.of_below (Below.chg (w0 := w) EW2.below (B := [w.heap.size + 1]) (by repeat (first | with_reducible exact Chg.refl _ _ | with_reducible apply Chg.drew | with_reducible apply Chg.drewl | with_reducible refine Chg.turn (by simp) | with_reducible refine Chg.both ?_ (by simp) | (with_reducible refine Chg.set ?_ (by simp) _) | with_reducible apply Chg.alloc | with_reducible apply Chg.ext)) (by simp)), (HCV2.out.chg (B' := [w.heap.size + 1]) (by repeat (first | with_reducible exact Chg.refl _ _ | with_reducible apply Chg.drew | with_reducible apply Chg.drewl | with_reducible refine Chg.turn (by simp) | with_reducible refine Chg.both ?_ (by simp) | (with_reducible refine Chg.set ?_ (by simp) _) | with_reducible apply Chg.alloc | with_reducible apply Chg.ext)) (fun b hb => by have := hlo b hb; simp; omega)).own (fun b hb => by have := hlo b hb; omega)⟩
set_option maxRecDepth 100000 in
set_option maxHeartbeats 8000000 in
theorem sCllAck_c (m : Mp) (c : Cll) (h : CllH) (s n : Int) (w : World) (hx : ReC w c h) (hb : BdC c) :
    Calls Try.prog 27 #[.agg #[.int .i64 m.c, .int .i64 m.w], .agg #[.int .i64 c.cell, .slice h.a1 c.wk.length h.c1, .int .i64 c.ground, .slice h.a3 c.outs.length h.c3, .slice h.a4 c.next.length h.c4, .slice h.a5 c.ins.length h.c5], .int .i64 s, .int .i64 n] w (MadeCV w (ackV m c s n) (.bool (ackT m c s n))) := by
  have HX := hid hx
  have HB := hid hb
  clear hx hb
  cases q1 : cllOk m c with
  | false =>
    have hbad : ackOkB m c s = false := by simp [ackOkB, q1]
    have E1 := hid (show ackV m c s n = cllZ by simp [ackV, hbad])
    have E2 := hid (show ackT m c s n = false by simp [ackT, hbad])
    go_enter Try.func27, Try.ntmps27
    try go_wp2_with (first
        | (go_at_call 50; refine (sCllOk_c _ _ _ _ (ReC.of (Hid.out (by assumption)) (by ((try simp only [ext_drew]); (try simp only [ext_ext]); repeat (first | exact Ext.refl _ | with_reducible apply Ext.add | with_reducible apply Ext.dr | apply Ext.alloc | apply Ext.ext | apply Ext.drew | refine Ext.trans ?_ (by assumption))))) (Hid.out (by assumption))).mono ?_; rintro e w' ⟨rfl, t, rfl⟩) | (go_at_call 56; refine (sPlcSide_c _ _ _ _).mono ?_; rintro e w' ⟨rfl, t, rfl⟩)
        | (
          with_reducible refine wp_region_mix (by kernel_rfl) (by decide +kernel) ?_
          repeat (first
            | (refine mix_pure rfl ?_; (first | go_big_quiet_skip | (go_big_quiet_want; go_big_quiet_op; go_big_quiet_on)); refine wpQuiet_nil ?_)
            | (refine mix_skip (by rfl) ?_; (try simp only [Act.put, List.setIfInBounds_toArray, List.set_cons_zero, List.set_cons_succ]))
            | (refine mix_mk rfl (by rfl) (fun K hK => ?_); (first | (go_simp; first | (go_at_call 50; refine (sCllOk_c _ _ _ _ (ReC.of (Hid.out (by assumption)) (by ((try simp only [ext_drew]); (try simp only [ext_ext]); repeat (first | exact Ext.refl _ | with_reducible apply Ext.add | with_reducible apply Ext.dr | apply Ext.alloc | apply Ext.ext | apply Ext.drew | refine Ext.trans ?_ (by assumption))))) (Hid.out (by assumption))).mono ?_; rintro e w' ⟨rfl, t, rfl⟩) | (go_at_call 56; refine (sPlcSide_c _ _ _ _).mono ?_; rintro e w' ⟨rfl, t, rfl⟩) | skip)); (show K _ _); refine hK _ _ (show Ext _ _ from (by ((try simp only [ext_drew]); (try simp only [ext_ext]); repeat (first | exact Ext.refl _ | with_reducible apply Ext.add | with_reducible apply Ext.dr | apply Ext.alloc | apply Ext.ext | apply Ext.drew | refine Ext.trans ?_ (by assumption))))) ?_; clear hK K; (try simp only [Act.put, List.setIfInBounds_toArray, List.set_cons_zero, List.set_cons_succ])))
          refine mix_nil ?_)
        | (
          with_reducible refine wp_region_ext (by kernel_rfl) (by kernel_rfl) ?_
          repeat (first | go_big_quiet_skip | (go_big_quiet_want; go_big_quiet_op; first | go_big_quiet_on | (apply Exists.intro; refine ⟨fun _ => ?_, ?_⟩; ((first | (go_at_call 50; first | exact quiet_call (sCllOk_c _ _ _ _ (ReC.of (Hid.out (by assumption)) (by ((try simp only [ext_drew]); (try simp only [ext_ext]); repeat (first | exact Ext.refl _ | with_reducible apply Ext.add | with_reducible apply Ext.dr | apply Ext.alloc | apply Ext.ext | apply Ext.drew | refine Ext.trans ?_ (by assumption))))) (Hid.out (by assumption))) | exact quiet_call2 (sCllOk_c _ _ _ _ (ReC.of (Hid.out (by assumption)) (by ((try simp only [ext_drew]); (try simp only [ext_ext]); repeat (first | exact Ext.refl _ | with_reducible apply Ext.add | with_reducible apply Ext.dr | apply Ext.alloc | apply Ext.ext | apply Ext.drew | refine Ext.trans ?_ (by assumption))))) (Hid.out (by assumption)))) | (go_at_call 56; first | exact quiet_call (sPlcSide_c _ _ _ _) | exact quiet_call2 (sPlcSide_c _ _ _ _)))); (try rw [h1]); (try rw [h2]); (try rw [h3]); (try rw [h4]); (try rw [p1]); (try rw [p2]); (try rw [p3]); (try rw [p4]); (try rw [r1]); (try rw [r2]); (try rw [r3]); (try rw [r4]); (try rw [r5]); (try rw [r6]); (try rw [q3]); (try rw [q4]); (try rw [hp]); (try rw [hq]); go_big_quiet_on)))
          refine wpQuiet_nil ?_
          rintro _ ⟨tq, rfl⟩))
    refine bodyPost_ret (v := .tuple #[.agg #[.int .i64 0, .slice none 0 0, .int .i64 0, .slice none 0 0, .slice none 0 0, .slice none 0 0], .bool false]) (by simp [results, Try.results27, go_sem]) rfl ?_
    rw [E1.out, E2.out]
    exact ⟨⟨none, 0, none, 0, none, 0, none, 0⟩, rfl, (by ((try simp only [ext_drew]); (try simp only [ext_ext]); repeat (first | exact Ext.refl _ | with_reducible apply Ext.add | with_reducible apply Ext.dr | apply Ext.alloc | apply Ext.ext | apply Ext.drew | refine Ext.trans ?_ (by assumption)))), Nat.le_refl _, [], by simp, by simp, ownL_nil_cll _⟩
  | true =>
    cases q2 : (plcSide m c.cell s == -1) with
    | true =>
      have hbad : ackOkB m c s = false := by simp [ackOkB, q2]
      have q2' : plcSide m c.cell s = -1 := by simpa using q2
      have E1 := hid (show ackV m c s n = cllZ by simp [ackV, hbad])
      have E2 := hid (show ackT m c s n = false by simp [ackT, hbad])
      go_enter Try.func27, Try.ntmps27
      try go_wp2_with (first
          | (go_at_call 50; refine (sCllOk_c _ _ _ _ (ReC.of (Hid.out (by assumption)) (by ((try simp only [ext_drew]); (try simp only [ext_ext]); repeat (first | exact Ext.refl _ | with_reducible apply Ext.add | with_reducible apply Ext.dr | apply Ext.alloc | apply Ext.ext | apply Ext.drew | refine Ext.trans ?_ (by assumption))))) (Hid.out (by assumption))).mono ?_; rintro e w' ⟨rfl, t, rfl⟩) | (go_at_call 56; refine (sPlcSide_c _ _ _ _).mono ?_; rintro e w' ⟨rfl, t, rfl⟩)
          | (
            with_reducible refine wp_region_mix (by kernel_rfl) (by decide +kernel) ?_
            repeat (first
              | (refine mix_pure rfl ?_; (first | go_big_quiet_skip | (go_big_quiet_want; go_big_quiet_op; go_big_quiet_on)); refine wpQuiet_nil ?_)
              | (refine mix_skip (by rfl) ?_; (try simp only [Act.put, List.setIfInBounds_toArray, List.set_cons_zero, List.set_cons_succ]))
              | (refine mix_mk rfl (by rfl) (fun K hK => ?_); (first | (go_simp; first | (go_at_call 50; refine (sCllOk_c _ _ _ _ (ReC.of (Hid.out (by assumption)) (by ((try simp only [ext_drew]); (try simp only [ext_ext]); repeat (first | exact Ext.refl _ | with_reducible apply Ext.add | with_reducible apply Ext.dr | apply Ext.alloc | apply Ext.ext | apply Ext.drew | refine Ext.trans ?_ (by assumption))))) (Hid.out (by assumption))).mono ?_; rintro e w' ⟨rfl, t, rfl⟩) | (go_at_call 56; refine (sPlcSide_c _ _ _ _).mono ?_; rintro e w' ⟨rfl, t, rfl⟩) | skip)); (show K _ _); refine hK _ _ (show Ext _ _ from (by ((try simp only [ext_drew]); (try simp only [ext_ext]); repeat (first | exact Ext.refl _ | with_reducible apply Ext.add | with_reducible apply Ext.dr | apply Ext.alloc | apply Ext.ext | apply Ext.drew | refine Ext.trans ?_ (by assumption))))) ?_; clear hK K; (try simp only [Act.put, List.setIfInBounds_toArray, List.set_cons_zero, List.set_cons_succ])))
            refine mix_nil ?_)
          | (
            with_reducible refine wp_region_ext (by kernel_rfl) (by kernel_rfl) ?_
            repeat (first | go_big_quiet_skip | (go_big_quiet_want; go_big_quiet_op; first | go_big_quiet_on | (apply Exists.intro; refine ⟨fun _ => ?_, ?_⟩; ((first | (go_at_call 50; first | exact quiet_call (sCllOk_c _ _ _ _ (ReC.of (Hid.out (by assumption)) (by ((try simp only [ext_drew]); (try simp only [ext_ext]); repeat (first | exact Ext.refl _ | with_reducible apply Ext.add | with_reducible apply Ext.dr | apply Ext.alloc | apply Ext.ext | apply Ext.drew | refine Ext.trans ?_ (by assumption))))) (Hid.out (by assumption))) | exact quiet_call2 (sCllOk_c _ _ _ _ (ReC.of (Hid.out (by assumption)) (by ((try simp only [ext_drew]); (try simp only [ext_ext]); repeat (first | exact Ext.refl _ | with_reducible apply Ext.add | with_reducible apply Ext.dr | apply Ext.alloc | apply Ext.ext | apply Ext.drew | refine Ext.trans ?_ (by assumption))))) (Hid.out (by assumption)))) | (go_at_call 56; first | exact quiet_call (sPlcSide_c _ _ _ _) | exact quiet_call2 (sPlcSide_c _ _ _ _)))); (try rw [h1]); (try rw [h2]); (try rw [h3]); (try rw [h4]); (try rw [p1]); (try rw [p2]); (try rw [p3]); (try rw [p4]); (try rw [r1]); (try rw [r2]); (try rw [r3]); (try rw [r4]); (try rw [r5]); (try rw [r6]); (try rw [q3]); (try rw [q4]); (try rw [hp]); (try rw [hq]); go_big_quiet_on)))
            refine wpQuiet_nil ?_
            rintro _ ⟨tq, rfl⟩))
      refine bodyPost_ret (v := .tuple #[.agg #[.int .i64 0, .slice none 0 0, .int .i64 0, .slice none 0 0, .slice none 0 0, .slice none 0 0], .bool false]) (by simp [results, Try.results27, go_sem]) rfl ?_
      rw [E1.out, E2.out]
      exact ⟨⟨none, 0, none, 0, none, 0, none, 0⟩, rfl, (by ((try simp only [ext_drew]); (try simp only [ext_ext]); repeat (first | exact Ext.refl _ | with_reducible apply Ext.add | with_reducible apply Ext.dr | apply Ext.alloc | apply Ext.ext | apply Ext.drew | refine Ext.trans ?_ (by assumption)))), Nat.le_refl _, [], by simp, by simp, ownL_nil_cll _⟩
    | false =>
      have hok : ackOkB m c s = true := by simp [ackOkB, q1, q2]
      obtain ⟨k, xs, nx, rfl, hk, hxs, hnx, ho1, hn1, hpl, _, hne⟩ := cll_side hok
      have HS := hid (show c.outs[k]? = some xs ∧ c.next[k]? = some nx ∧ pclListOk m xs nx = true from ⟨hxs, hnx, hpl⟩)
      have HE := hid (show ackV m c k n = (bif ackB nx xs n then ackC c k (pclFrom xs n) else c) ∧ ackT m c k n = ackB nx xs n by
        simp only [ackV, ackT, hok, cond_true, ho1, hn1, Bool.true_and, Int.toNat_natCast, and_self])
      have HNB := hid (show 0 ≤ nx ∧ nx ≤ 5000 by
        simp only [pclListOk, Bool.and_eq_true] at hpl
        exact inB_iff.1 hpl.1.1.2)
      obtain ⟨v, hv⟩ : ∃ v, (bif ackB nx xs n then ackC c k (pclFrom xs n) else c) = v := ⟨_, rfl⟩
      have HV := hid hv
      clear hxs hnx hpl ho1 hn1 hok hne hv
      go_enter Try.func27, Try.ntmps27
      try go_wp2_with (first
          | (go_at_call 50; refine (sCllOk_c _ _ _ _ (ReC.of (Hid.out (by assumption)) (by ((try simp only [ext_drew]); (try simp only [ext_ext]); repeat (first | exact Ext.refl _ | with_reducible apply Ext.add | with_reducible apply Ext.dr | apply Ext.alloc | apply Ext.ext | apply Ext.drew | refine Ext.trans ?_ (by assumption))))) (Hid.out (by assumption))).mono ?_; rintro e w' ⟨rfl, t, rfl⟩) | (go_at_call 56; refine (sPlcSide_c _ _ _ _).mono ?_; rintro e w' ⟨rfl, t, rfl⟩) | (go_at_call 57; (with_reducible refine (l5Ack_c c h k n nx xs _ (ReC.of HX.out (by ((try simp only [ext_drew]); (try simp only [ext_ext]); repeat (first | exact Ext.refl _ | with_reducible apply Ext.add | with_reducible apply Ext.dr | apply Ext.alloc | apply Ext.ext | apply Ext.drew | refine Ext.trans ?_ (by assumption))))) HB.out HS.out.1 HS.out.2.1 HNB.out.1 HNB.out.2).mono ?_); rw [HV.out]; rintro e w' ⟨⟨u1, s1, u3, s3, u4, s4, u5, s5⟩, rfl, ⟨t9, rfl⟩, ho9⟩; have HO9 := hid ho9; clear ho9)
          | (
            with_reducible refine wp_region_mix (by kernel_rfl) (by decide +kernel) ?_
            repeat (first
              | (refine mix_pure rfl ?_; (first | go_big_quiet_skip | (go_big_quiet_want; go_big_quiet_op; go_big_quiet_on)); refine wpQuiet_nil ?_)
              | (refine mix_skip (by rfl) ?_; (try simp only [Act.put, List.setIfInBounds_toArray, List.set_cons_zero, List.set_cons_succ]))
              | (refine mix_mk rfl (by rfl) (fun K hK => ?_); (first | (go_simp; first | (go_at_call 50; refine (sCllOk_c _ _ _ _ (ReC.of (Hid.out (by assumption)) (by ((try simp only [ext_drew]); (try simp only [ext_ext]); repeat (first | exact Ext.refl _ | with_reducible apply Ext.add | with_reducible apply Ext.dr | apply Ext.alloc | apply Ext.ext | apply Ext.drew | refine Ext.trans ?_ (by assumption))))) (Hid.out (by assumption))).mono ?_; rintro e w' ⟨rfl, t, rfl⟩) | (go_at_call 56; refine (sPlcSide_c _ _ _ _).mono ?_; rintro e w' ⟨rfl, t, rfl⟩) | (go_at_call 57; (with_reducible refine (l5Ack_c c h k n nx xs _ (ReC.of HX.out (by ((try simp only [ext_drew]); (try simp only [ext_ext]); repeat (first | exact Ext.refl _ | with_reducible apply Ext.add | with_reducible apply Ext.dr | apply Ext.alloc | apply Ext.ext | apply Ext.drew | refine Ext.trans ?_ (by assumption))))) HB.out HS.out.1 HS.out.2.1 HNB.out.1 HNB.out.2).mono ?_); rw [HV.out]; rintro e w' ⟨⟨u1, s1, u3, s3, u4, s4, u5, s5⟩, rfl, ⟨t9, rfl⟩, ho9⟩; have HO9 := hid ho9; clear ho9) | skip)); (show K _ _); refine hK _ _ (show Ext _ _ from (by ((try simp only [ext_drew]); (try simp only [ext_ext]); repeat (first | exact Ext.refl _ | with_reducible apply Ext.add | with_reducible apply Ext.dr | apply Ext.alloc | apply Ext.ext | apply Ext.drew | refine Ext.trans ?_ (by assumption))))) ?_; clear hK K; (try simp only [Act.put, List.setIfInBounds_toArray, List.set_cons_zero, List.set_cons_succ])))
            refine mix_nil ?_)
          | (
            with_reducible refine wp_region_ext (by kernel_rfl) (by kernel_rfl) ?_
            repeat (first | go_big_quiet_skip | (go_big_quiet_want; go_big_quiet_op; first | go_big_quiet_on | (apply Exists.intro; refine ⟨fun _ => ?_, ?_⟩; ((first | (go_at_call 50; first | exact quiet_call (sCllOk_c _ _ _ _ (ReC.of (Hid.out (by assumption)) (by ((try simp only [ext_drew]); (try simp only [ext_ext]); repeat (first | exact Ext.refl _ | with_reducible apply Ext.add | with_reducible apply Ext.dr | apply Ext.alloc | apply Ext.ext | apply Ext.drew | refine Ext.trans ?_ (by assumption))))) (Hid.out (by assumption))) | exact quiet_call2 (sCllOk_c _ _ _ _ (ReC.of (Hid.out (by assumption)) (by ((try simp only [ext_drew]); (try simp only [ext_ext]); repeat (first | exact Ext.refl _ | with_reducible apply Ext.add | with_reducible apply Ext.dr | apply Ext.alloc | apply Ext.ext | apply Ext.drew | refine Ext.trans ?_ (by assumption))))) (Hid.out (by assumption)))) | (go_at_call 56; first | exact quiet_call (sPlcSide_c _ _ _ _) | exact quiet_call2 (sPlcSide_c _ _ _ _)))); (try rw [h1]); (try rw [h2]); (try rw [h3]); (try rw [h4]); (try rw [p1]); (try rw [p2]); (try rw [p3]); (try rw [p4]); (try rw [r1]); (try rw [r2]); (try rw [r3]); (try rw [r4]); (try rw [r5]); (try rw [r6]); (try rw [q3]); (try rw [q4]); (try rw [hp]); (try rw [hq]); go_big_quiet_on)))
            refine wpQuiet_nil ?_
            rintro _ ⟨tq, rfl⟩))
      refine bodyPost_ret (v := .tuple #[.agg #[.int .i64 v.cell, .slice u1 v.wk.length s1, .int .i64 v.ground, .slice u3 v.outs.length s3, .slice u4 v.next.length s4, .slice u5 v.ins.length s5], .bool (ackB nx xs n)]) (by simp [results, Try.results27, go_sem]) rfl ?_
      rw [HE.out.1, HE.out.2, HV.out]
      have Q := HO9.out
      (try rw [ext_ext] at Q)
      exact ⟨⟨u1, s1, u3, s3, u4, s4, u5, s5⟩, rfl, (by ((try simp only [ext_drew]); (try simp only [ext_ext]); repeat (first | exact Ext.refl _ | with_reducible apply Ext.add | with_reducible apply Ext.dr | apply Ext.alloc | apply Ext.ext | apply Ext.drew | refine Ext.trans ?_ (by assumption)))), OwnR.mono (OwnR.fin Q (by ((try simp only [ext_drew]); (try simp only [ext_ext]); repeat (first | exact Ext.refl _ | with_reducible apply Ext.add | with_reducible apply Ext.dr | apply Ext.alloc | apply Ext.ext | apply Ext.drew | refine Ext.trans ?_ (by assumption)))) (by simp) (by simp [go_sem])) (by (try simp [go_sem]) <;> (try simp [Xt.add]) <;> omega) (by (try simp [go_sem]) <;> (try simp [Xt.add]) <;> omega) (Nat.le_refl _)⟩
end Go.Proofs.Ytfmgjhlcedlgpaa
