/- The laws' helpers at ArbTable. -/
import Derived.Test.YtcfbfpgcfnpdgaaSt
import Derived.Test.YtcfbfpgcfnpdgaaTInt
namespace Go.Proofs.Ytcfbfpgcfnpdgaa
open Go.RowKit

def sArb : Sch := .st [.sl .int, .sl .int]
def arbDat  (xs0 : List Int) (xs1 : List Int) : Dat := .s [.l (xs0.map Dat.i), .l (xs1.map Dat.i)]
def MadeArb (w : World)  (n0 n1 : Nat) (xs0 : List Int) (xs1 : List Int) (e : Ending) (w' : World) : Prop :=
  ∃ a0 c0 a1 c1, e = .returned (.agg #[.slice a0 n0 c0, .slice a1 n1 c1]) ∧ Ext w w' ∧ OwnR w.heap.size w'.heap.size w' sArb [.slice a0 n0 c0, .slice a1 n1 c1] (arbDat xs0 xs1)

theorem re_Arb {w : World} {a0 : Option Addr} {n0 c0 : Nat} {xs0 : List Int} {a1 : Option Addr} {n1 c1 : Nat} {xs1 : List Int}  (h : Re w sArb [.slice a0 n0 c0, .slice a1 n1 c1] (arbDat xs0 xs1)) : Re w (.sl .int) [.slice a0 n0 c0] (.l (xs0.map Dat.i)) ∧ Re w (.sl .int) [.slice a1 n1 c1] (.l (xs1.map Dat.i)) := by
  unfold Re sArb arbDat Rd at h
  obtain ⟨ds, hd, h⟩ := h
  simp only [Dat.s.injEq] at hd
  subst hd
  unfold RdL at h; obtain ⟨v1, v2, d1, d2, e1, e2, g0, h⟩ := h
  simp only [List.cons.injEq] at e2
  obtain ⟨rfl, rfl⟩ := e2
  obtain ⟨_, _, rfl⟩ := Re.slice g0
  simp only [List.singleton_append, List.cons.injEq] at e1
  obtain ⟨e1, rfl⟩ := e1
  rw [← e1] at g0
  unfold RdL at h; obtain ⟨v1, v2, d1, d2, e1, e2, g1, h⟩ := h
  simp only [List.cons.injEq] at e2
  obtain ⟨rfl, rfl⟩ := e2
  obtain ⟨_, _, rfl⟩ := Re.slice g1
  simp only [List.singleton_append, List.cons.injEq] at e1
  obtain ⟨e1, rfl⟩ := e1
  rw [← e1] at g1
  exact ⟨g0, g1⟩

theorem open_Arb {w : World} {vs : List Value} {d : Dat} (h : Rd w.heap.size w sArb vs d) : ∃  (a0 : Option Addr) (n0 c0 : Nat) (xs0 : List Int) (a1 : Option Addr) (n1 c1 : Nat) (xs1 : List Int), vs = [.slice a0 n0 c0, .slice a1 n1 c1] ∧ Re w (.sl .int) [.slice a0 n0 c0] (.l (xs0.map Dat.i)) ∧ Re w (.sl .int) [.slice a1 n1 c1] (.l (xs1.map Dat.i)) := by
  unfold sArb Rd at h
  obtain ⟨ds, hd, h⟩ := h
  subst hd
  unfold RdL at h; obtain ⟨v1, v2, d1, d2, rfl, rfl, g0, h⟩ := h
  obtain ⟨a0, c0, xs0, rfl, rfl, _⟩ := rdS_Int g0
  unfold RdL at h; obtain ⟨v1, v2, d1, d2, rfl, rfl, g1, h⟩ := h
  obtain ⟨a1, c1, xs1, rfl, rfl, _⟩ := rdS_Int g1
  unfold RdL at h; obtain ⟨rfl, rfl⟩ := h
  exact ⟨a0, _, c0, xs0, a1, _, c1, xs1, rfl, g0, g1⟩

theorem szArb_c  (n0 n1 : Nat) (a0 : Option Addr) (c0 : Nat) (a1 : Option Addr) (c1 : Nat) (left : Int) (w : World) (h0 : 0 ≤ left) (h1 : left ≤ 1048576) (m0 : n0 ≤ 9223372036854775807) (m1 : n1 ≤ 9223372036854775807) :
    Calls Try.prog 7 #[.agg #[.slice a0 n0 c0, .slice a1 n1 c1], .int .i64 left] w fun e w' => e = .returned (.int .i64 (if left < (n0 : Int) + (n1 : Int) then -1 else left - (n0 : Int) - (n1 : Int))) ∧ Ext w w' := by
  by_cases t0 : left < (n0 : Int)
  · have tt : left < (n0 : Int) + (n1 : Int) := by omega
    go_enter Try.func7, Try.ntmps7
    try go_wp2_with (first
        | (go_at_call 27; refine (szIntS_c _ _ _ _ _ (by omega) (by omega) (by assumption)).mono ?_; rintro e w' ⟨rfl, rfl⟩)
        | (
          with_reducible refine wp_region_mix (by kernel_rfl) (by decide +kernel) ?_
          repeat (first
            | (refine mix_pure rfl ?_; (first | go_big_quiet_skip | (go_big_quiet_want; go_big_quiet_op; go_big_quiet_on)); refine wpQuiet_nil ?_)
            | (refine mix_skip (by rfl) ?_; (try simp only [Act.put, List.setIfInBounds_toArray, List.set_cons_zero, List.set_cons_succ]))
            | (refine mix_mk rfl (by rfl) (fun K hK => ?_); (first | (go_simp; first | (go_at_call 27; refine (szIntS_c _ _ _ _ _ (by omega) (by omega) (by assumption)).mono ?_; rintro e w' ⟨rfl, rfl⟩) | skip)); (show K _ _); refine hK _ _ (show Ext _ _ from (by ((try simp only [ext_drew]); (try simp only [ext_ext]); repeat (first | exact Ext.refl _ | with_reducible apply Ext.add | with_reducible apply Ext.dr | apply Ext.alloc | apply Ext.ext | apply Ext.drew | refine Ext.trans ?_ (by assumption))))) ?_; clear hK K; (try simp only [Act.put, List.setIfInBounds_toArray, List.set_cons_zero, List.set_cons_succ])))
          refine mix_nil ?_)
        | (
          with_reducible refine wp_region_ext (by kernel_rfl) (by kernel_rfl) ?_
          repeat (first | go_big_quiet_skip | (go_big_quiet_want; go_big_quiet_op; first | go_big_quiet_on | (apply Exists.intro; refine ⟨fun _ => ?_, ?_⟩; ((first | (go_at_call 27; first | exact quiet_same (szIntS_c _ _ _ _ _ (by omega) (by omega) (by assumption)) | exact quiet_same2 (szIntS_c _ _ _ _ _ (by omega) (by omega) (by assumption))))); (try rw [h1]); (try rw [h2]); (try rw [h3]); (try rw [h4]); (try rw [p1]); (try rw [p2]); (try rw [p3]); (try rw [p4]); (try rw [r1]); (try rw [r2]); (try rw [r3]); (try rw [r4]); (try rw [r5]); (try rw [r6]); (try rw [q3]); (try rw [q4]); (try rw [hp]); (try rw [hq]); go_big_quiet_on)))
          refine wpQuiet_nil ?_
          rintro _ ⟨tq, rfl⟩))
    go_ret
    exact ⟨ret_int (by first | rfl | rw [if_pos tt]), (by ((try simp only [ext_drew]); (try simp only [ext_ext]); repeat (first | exact Ext.refl _ | with_reducible apply Ext.add | with_reducible apply Ext.dr | apply Ext.alloc | apply Ext.ext | apply Ext.drew | refine Ext.trans ?_ (by assumption))))⟩
  ·
    by_cases t1 : left < (n0 : Int) + (n1 : Int)
    · have tt : left < (n0 : Int) + (n1 : Int) := by omega
      go_enter Try.func7, Try.ntmps7
      try go_wp2_with (first
          | (go_at_call 27; refine (szIntS_c _ _ _ _ _ (by omega) (by omega) (by assumption)).mono ?_; rintro e w' ⟨rfl, rfl⟩)
          | (
            with_reducible refine wp_region_mix (by kernel_rfl) (by decide +kernel) ?_
            repeat (first
              | (refine mix_pure rfl ?_; (first | go_big_quiet_skip | (go_big_quiet_want; go_big_quiet_op; go_big_quiet_on)); refine wpQuiet_nil ?_)
              | (refine mix_skip (by rfl) ?_; (try simp only [Act.put, List.setIfInBounds_toArray, List.set_cons_zero, List.set_cons_succ]))
              | (refine mix_mk rfl (by rfl) (fun K hK => ?_); (first | (go_simp; first | (go_at_call 27; refine (szIntS_c _ _ _ _ _ (by omega) (by omega) (by assumption)).mono ?_; rintro e w' ⟨rfl, rfl⟩) | skip)); (show K _ _); refine hK _ _ (show Ext _ _ from (by ((try simp only [ext_drew]); (try simp only [ext_ext]); repeat (first | exact Ext.refl _ | with_reducible apply Ext.add | with_reducible apply Ext.dr | apply Ext.alloc | apply Ext.ext | apply Ext.drew | refine Ext.trans ?_ (by assumption))))) ?_; clear hK K; (try simp only [Act.put, List.setIfInBounds_toArray, List.set_cons_zero, List.set_cons_succ])))
            refine mix_nil ?_)
          | (
            with_reducible refine wp_region_ext (by kernel_rfl) (by kernel_rfl) ?_
            repeat (first | go_big_quiet_skip | (go_big_quiet_want; go_big_quiet_op; first | go_big_quiet_on | (apply Exists.intro; refine ⟨fun _ => ?_, ?_⟩; ((first | (go_at_call 27; first | exact quiet_same (szIntS_c _ _ _ _ _ (by omega) (by omega) (by assumption)) | exact quiet_same2 (szIntS_c _ _ _ _ _ (by omega) (by omega) (by assumption))))); (try rw [h1]); (try rw [h2]); (try rw [h3]); (try rw [h4]); (try rw [p1]); (try rw [p2]); (try rw [p3]); (try rw [p4]); (try rw [r1]); (try rw [r2]); (try rw [r3]); (try rw [r4]); (try rw [r5]); (try rw [r6]); (try rw [q3]); (try rw [q4]); (try rw [hp]); (try rw [hq]); go_big_quiet_on)))
            refine wpQuiet_nil ?_
            rintro _ ⟨tq, rfl⟩))
      go_ret
      exact ⟨ret_int (by first | rfl | rw [if_pos tt]), (by ((try simp only [ext_drew]); (try simp only [ext_ext]); repeat (first | exact Ext.refl _ | with_reducible apply Ext.add | with_reducible apply Ext.dr | apply Ext.alloc | apply Ext.ext | apply Ext.drew | refine Ext.trans ?_ (by assumption))))⟩
    · go_enter Try.func7, Try.ntmps7
      try go_wp2_with (first
          | (go_at_call 27; refine (szIntS_c _ _ _ _ _ (by omega) (by omega) (by assumption)).mono ?_; rintro e w' ⟨rfl, rfl⟩)
          | (
            with_reducible refine wp_region_mix (by kernel_rfl) (by decide +kernel) ?_
            repeat (first
              | (refine mix_pure rfl ?_; (first | go_big_quiet_skip | (go_big_quiet_want; go_big_quiet_op; go_big_quiet_on)); refine wpQuiet_nil ?_)
              | (refine mix_skip (by rfl) ?_; (try simp only [Act.put, List.setIfInBounds_toArray, List.set_cons_zero, List.set_cons_succ]))
              | (refine mix_mk rfl (by rfl) (fun K hK => ?_); (first | (go_simp; first | (go_at_call 27; refine (szIntS_c _ _ _ _ _ (by omega) (by omega) (by assumption)).mono ?_; rintro e w' ⟨rfl, rfl⟩) | skip)); (show K _ _); refine hK _ _ (show Ext _ _ from (by ((try simp only [ext_drew]); (try simp only [ext_ext]); repeat (first | exact Ext.refl _ | with_reducible apply Ext.add | with_reducible apply Ext.dr | apply Ext.alloc | apply Ext.ext | apply Ext.drew | refine Ext.trans ?_ (by assumption))))) ?_; clear hK K; (try simp only [Act.put, List.setIfInBounds_toArray, List.set_cons_zero, List.set_cons_succ])))
            refine mix_nil ?_)
          | (
            with_reducible refine wp_region_ext (by kernel_rfl) (by kernel_rfl) ?_
            repeat (first | go_big_quiet_skip | (go_big_quiet_want; go_big_quiet_op; first | go_big_quiet_on | (apply Exists.intro; refine ⟨fun _ => ?_, ?_⟩; ((first | (go_at_call 27; first | exact quiet_same (szIntS_c _ _ _ _ _ (by omega) (by omega) (by assumption)) | exact quiet_same2 (szIntS_c _ _ _ _ _ (by omega) (by omega) (by assumption))))); (try rw [h1]); (try rw [h2]); (try rw [h3]); (try rw [h4]); (try rw [p1]); (try rw [p2]); (try rw [p3]); (try rw [p4]); (try rw [r1]); (try rw [r2]); (try rw [r3]); (try rw [r4]); (try rw [r5]); (try rw [r6]); (try rw [q3]); (try rw [q4]); (try rw [hp]); (try rw [hq]); go_big_quiet_on)))
            refine wpQuiet_nil ?_
            rintro _ ⟨tq, rfl⟩))
      go_ret
      exact ⟨ret_int (by first | rfl | rw [if_neg (by omega)]), (by ((try simp only [ext_drew]); (try simp only [ext_ext]); repeat (first | exact Ext.refl _ | with_reducible apply Ext.add | with_reducible apply Ext.dr | apply Ext.alloc | apply Ext.ext | apply Ext.drew | refine Ext.trans ?_ (by assumption))))⟩

set_option maxRecDepth 100000 in
set_option maxHeartbeats 2000000 in
theorem toArb_c  (xs0 : List Int) (xs1 : List Int) (a0 : Option Addr) (c0 : Nat) (a1 : Option Addr) (c1 : Nat) (n0 n1 : Nat) (w : World) (h0 : Re w (.sl .int) [.slice a0 n0 c0] (.l (xs0.map Dat.i))) (h1 : Re w (.sl .int) [.slice a1 n1 c1] (.l (xs1.map Dat.i))) (b0 : n0 ≤ 1048576) (b1 : n1 ≤ 1048576) :
    Calls Try.prog 10 #[.agg #[.slice a0 n0 c0, .slice a1 n1 c1]] w (MadeArb w  n0 n1 xs0 xs1) := by
  have H0 := hid h0
  have H1 := hid h1
  clear h0 h1
  go_enter Try.func10, Try.ntmps10
  try go_wp2_with (first
      | (go_at_call 30; (with_reducible refine (toIntS_c xs0 a0 n0 c0 _ (H0.out.of (by ((try simp only [ext_drew]); (try simp only [ext_ext]); repeat (first | exact Ext.refl _ | with_reducible apply Ext.add | with_reducible apply Ext.dr | apply Ext.alloc | apply Ext.ext | apply Ext.drew | refine Ext.trans ?_ (by assumption))))) b0).mono ?_); rintro e w' ⟨p0, q0, rfl, ⟨t0, rfl⟩, ho⟩; have O0 := hid ho; clear ho) | (go_at_call 30; (with_reducible refine (toIntS_c xs1 a1 n1 c1 _ (H1.out.of (by ((try simp only [ext_drew]); (try simp only [ext_ext]); repeat (first | exact Ext.refl _ | with_reducible apply Ext.add | with_reducible apply Ext.dr | apply Ext.alloc | apply Ext.ext | apply Ext.drew | refine Ext.trans ?_ (by assumption))))) b1).mono ?_); rintro e w' ⟨p1, q1, rfl, ⟨t1, rfl⟩, ho⟩; have O1 := hid ho; clear ho)
      | (
        with_reducible refine wp_region_mix (by kernel_rfl) (by decide +kernel) ?_
        repeat (first
          | (refine mix_pure rfl ?_; (first | go_big_quiet_skip | (go_big_quiet_want; go_big_quiet_op; go_big_quiet_on)); refine wpQuiet_nil ?_)
          | (refine mix_skip (by rfl) ?_; (try simp only [Act.put, List.setIfInBounds_toArray, List.set_cons_zero, List.set_cons_succ]))
          | (refine mix_mk rfl (by rfl) (fun K hK => ?_); (first | (go_simp; first | (go_at_call 30; (with_reducible refine (toIntS_c xs0 a0 n0 c0 _ (H0.out.of (by ((try simp only [ext_drew]); (try simp only [ext_ext]); repeat (first | exact Ext.refl _ | with_reducible apply Ext.add | with_reducible apply Ext.dr | apply Ext.alloc | apply Ext.ext | apply Ext.drew | refine Ext.trans ?_ (by assumption))))) b0).mono ?_); rintro e w' ⟨p0, q0, rfl, ⟨t0, rfl⟩, ho⟩; have O0 := hid ho; clear ho) | (go_at_call 30; (with_reducible refine (toIntS_c xs1 a1 n1 c1 _ (H1.out.of (by ((try simp only [ext_drew]); (try simp only [ext_ext]); repeat (first | exact Ext.refl _ | with_reducible apply Ext.add | with_reducible apply Ext.dr | apply Ext.alloc | apply Ext.ext | apply Ext.drew | refine Ext.trans ?_ (by assumption))))) b1).mono ?_); rintro e w' ⟨p1, q1, rfl, ⟨t1, rfl⟩, ho⟩; have O1 := hid ho; clear ho) | skip)); (show K _ _); refine hK _ _ (show Ext _ _ from (by ((try simp only [ext_drew]); (try simp only [ext_ext]); repeat (first | exact Ext.refl _ | with_reducible apply Ext.add | with_reducible apply Ext.dr | apply Ext.alloc | apply Ext.ext | apply Ext.drew | refine Ext.trans ?_ (by assumption))))) ?_; clear hK K; (try simp only [Act.put, List.setIfInBounds_toArray, List.set_cons_zero, List.set_cons_succ])))
        refine mix_nil ?_)
      | (
        with_reducible refine wp_region_ext (by kernel_rfl) (by kernel_rfl) ?_
        repeat (first | go_big_quiet_skip | (go_big_quiet_want; go_big_quiet_op; first | go_big_quiet_on | (apply Exists.intro; refine ⟨fun _ => ?_, ?_⟩; (fail); (try rw [h1]); (try rw [h2]); (try rw [h3]); (try rw [h4]); (try rw [p1]); (try rw [p2]); (try rw [p3]); (try rw [p4]); (try rw [r1]); (try rw [r2]); (try rw [r3]); (try rw [r4]); (try rw [r5]); (try rw [r6]); (try rw [q3]); (try rw [q4]); (try rw [hp]); (try rw [hq]); go_big_quiet_on)))
        refine wpQuiet_nil ?_
        rintro _ ⟨tq, rfl⟩))
  refine bodyPost_ret (v := .agg #[.slice p0 n0 q0, .slice p1 n1 q1]) (by simp [results, Try.results10, go_sem]) rfl ?_
  refine ⟨_, _, _, _, rfl, (by ((try simp only [ext_drew]); (try simp only [ext_ext]); repeat (first | exact Ext.refl _ | with_reducible apply Ext.add | with_reducible apply Ext.dr | apply Ext.alloc | apply Ext.ext | apply Ext.drew | refine Ext.trans ?_ (by assumption)))), ?_⟩
  have Q0 := O0.out
  (try rw [ext_ext] at Q0)
  have Q1 := O1.out
  (try rw [ext_ext] at Q1)
  exact OwnRL.st (OwnRL.lo (OwnRL.cons' (OwnR.fin Q0 (by ((try simp only [ext_drew]); (try simp only [ext_ext]); repeat (first | exact Ext.refl _ | with_reducible apply Ext.add | with_reducible apply Ext.dr | apply Ext.alloc | apply Ext.ext | apply Ext.drew | refine Ext.trans ?_ (by assumption)))) (by simp) (by simp [go_sem])) (OwnRL.cons' (OwnR.fin Q1 (by ((try simp only [ext_drew]); (try simp only [ext_ext]); repeat (first | exact Ext.refl _ | with_reducible apply Ext.add | with_reducible apply Ext.dr | apply Ext.alloc | apply Ext.ext | apply Ext.drew | refine Ext.trans ?_ (by assumption)))) (by simp) (by simp [go_sem])) (OwnRL.nil' (Nat.le_refl _)) (by (try simp [go_sem]) <;> (try simp [Xt.add]) <;> omega) (by (try simp [go_sem]) <;> (try simp [Xt.add]) <;> omega) (by (try simp [go_sem]) <;> (try simp [Xt.add]) <;> omega)) (by (try simp [go_sem]) <;> (try simp [Xt.add]) <;> omega) (by (try simp [go_sem]) <;> (try simp [Xt.add]) <;> omega) (by (try simp [go_sem]) <;> (try simp [Xt.add]) <;> omega)) (by (try simp [go_sem]) <;> (try simp [Xt.add]) <;> omega))

theorem eqArb_c  (xs0 : List Int) (xs1 : List Int) (a0 : Option Addr) (c0 : Nat) (a1 : Option Addr) (c1 : Nat) (a0' : Option Addr) (c0' : Nat) (a1' : Option Addr) (c1' : Nat) (n0 n1 : Nat) (w : World) (h0 : Re w (.sl .int) [.slice a0 n0 c0] (.l (xs0.map Dat.i))) (h1 : Re w (.sl .int) [.slice a1 n1 c1] (.l (xs1.map Dat.i))) (h0' : Re w (.sl .int) [.slice a0' n0 c0'] (.l (xs0.map Dat.i))) (h1' : Re w (.sl .int) [.slice a1' n1 c1'] (.l (xs1.map Dat.i))) (b0 : n0 ≤ 1048576) (b1 : n1 ≤ 1048576) :
    Calls Try.prog 12 #[.agg #[.slice a0 n0 c0, .slice a1 n1 c1], .agg #[.slice a0' n0 c0', .slice a1' n1 c1']] w fun e w' => e = .returned (.bool true) ∧ Ext w w' := by
  have H0 := hid h0
  have H0' := hid h0'
  have H1 := hid h1
  have H1' := hid h1'
  clear h0 h0' h1 h1'
  go_enter Try.func12, Try.ntmps12
  try go_wp2_with (first
      | (go_at_call 34; refine (eqIntS_c _ _ _ _ _ _ _ (Re.of (Hid.out (by assumption)) (by ((try simp only [ext_drew]); (try simp only [ext_ext]); repeat (first | exact Ext.refl _ | with_reducible apply Ext.add | with_reducible apply Ext.dr | apply Ext.alloc | apply Ext.ext | apply Ext.drew | refine Ext.trans ?_ (by assumption))))) (Re.of (Hid.out (by assumption)) (by ((try simp only [ext_drew]); (try simp only [ext_ext]); repeat (first | exact Ext.refl _ | with_reducible apply Ext.add | with_reducible apply Ext.dr | apply Ext.alloc | apply Ext.ext | apply Ext.drew | refine Ext.trans ?_ (by assumption))))) (by omega)).mono ?_; rintro e w' ⟨rfl, t, rfl⟩)
      | (
        with_reducible refine wp_region_mix (by kernel_rfl) (by decide +kernel) ?_
        repeat (first
          | (refine mix_pure rfl ?_; (first | go_big_quiet_skip | (go_big_quiet_want; go_big_quiet_op; go_big_quiet_on)); refine wpQuiet_nil ?_)
          | (refine mix_skip (by rfl) ?_; (try simp only [Act.put, List.setIfInBounds_toArray, List.set_cons_zero, List.set_cons_succ]))
          | (refine mix_mk rfl (by rfl) (fun K hK => ?_); (first | (go_simp; first | (go_at_call 34; refine (eqIntS_c _ _ _ _ _ _ _ (Re.of (Hid.out (by assumption)) (by ((try simp only [ext_drew]); (try simp only [ext_ext]); repeat (first | exact Ext.refl _ | with_reducible apply Ext.add | with_reducible apply Ext.dr | apply Ext.alloc | apply Ext.ext | apply Ext.drew | refine Ext.trans ?_ (by assumption))))) (Re.of (Hid.out (by assumption)) (by ((try simp only [ext_drew]); (try simp only [ext_ext]); repeat (first | exact Ext.refl _ | with_reducible apply Ext.add | with_reducible apply Ext.dr | apply Ext.alloc | apply Ext.ext | apply Ext.drew | refine Ext.trans ?_ (by assumption))))) (by omega)).mono ?_; rintro e w' ⟨rfl, t, rfl⟩) | skip)); (show K _ _); refine hK _ _ (show Ext _ _ from (by ((try simp only [ext_drew]); (try simp only [ext_ext]); repeat (first | exact Ext.refl _ | with_reducible apply Ext.add | with_reducible apply Ext.dr | apply Ext.alloc | apply Ext.ext | apply Ext.drew | refine Ext.trans ?_ (by assumption))))) ?_; clear hK K; (try simp only [Act.put, List.setIfInBounds_toArray, List.set_cons_zero, List.set_cons_succ])))
        refine mix_nil ?_)
      | (
        with_reducible refine wp_region_ext (by kernel_rfl) (by kernel_rfl) ?_
        repeat (first | go_big_quiet_skip | (go_big_quiet_want; go_big_quiet_op; first | go_big_quiet_on | (apply Exists.intro; refine ⟨fun _ => ?_, ?_⟩; ((first | (go_at_call 34; first | exact quiet_call (eqIntS_c _ _ _ _ _ _ _ (Re.of (Hid.out (by assumption)) (by ((try simp only [ext_drew]); (try simp only [ext_ext]); repeat (first | exact Ext.refl _ | with_reducible apply Ext.add | with_reducible apply Ext.dr | apply Ext.alloc | apply Ext.ext | apply Ext.drew | refine Ext.trans ?_ (by assumption))))) (Re.of (Hid.out (by assumption)) (by ((try simp only [ext_drew]); (try simp only [ext_ext]); repeat (first | exact Ext.refl _ | with_reducible apply Ext.add | with_reducible apply Ext.dr | apply Ext.alloc | apply Ext.ext | apply Ext.drew | refine Ext.trans ?_ (by assumption))))) (by omega)) | exact quiet_call2 (eqIntS_c _ _ _ _ _ _ _ (Re.of (Hid.out (by assumption)) (by ((try simp only [ext_drew]); (try simp only [ext_ext]); repeat (first | exact Ext.refl _ | with_reducible apply Ext.add | with_reducible apply Ext.dr | apply Ext.alloc | apply Ext.ext | apply Ext.drew | refine Ext.trans ?_ (by assumption))))) (Re.of (Hid.out (by assumption)) (by ((try simp only [ext_drew]); (try simp only [ext_ext]); repeat (first | exact Ext.refl _ | with_reducible apply Ext.add | with_reducible apply Ext.dr | apply Ext.alloc | apply Ext.ext | apply Ext.drew | refine Ext.trans ?_ (by assumption))))) (by omega))))); (try rw [h1]); (try rw [h2]); (try rw [h3]); (try rw [h4]); (try rw [p1]); (try rw [p2]); (try rw [p3]); (try rw [p4]); (try rw [r1]); (try rw [r2]); (try rw [r3]); (try rw [r4]); (try rw [r5]); (try rw [r6]); (try rw [q3]); (try rw [q4]); (try rw [hp]); (try rw [hq]); go_big_quiet_on)))
        refine wpQuiet_nil ?_
        rintro _ ⟨tq, rfl⟩))
  go_ret
  exact ⟨rfl, (by ((try simp only [ext_drew]); (try simp only [ext_ext]); repeat (first | exact Ext.refl _ | with_reducible apply Ext.add | with_reducible apply Ext.dr | apply Ext.alloc | apply Ext.ext | apply Ext.drew | refine Ext.trans ?_ (by assumption))))⟩

def arbMarks  (n0 n1 : Nat) (q : Int) : Dat := arbDat (marksOf imk 1 (q) n0) (marksOf imk 1 (q + (n0 : Int)) n1)

set_option maxRecDepth 100000 in
set_option maxHeartbeats 2000000 in
theorem markArb_c  (xs0 : List Int) (xs1 : List Int) (a0 : Option Addr) (c0 : Nat) (a1 : Option Addr) (c1 : Nat) (n0 n1 : Nat) (lo hi : Nat) (q : Int) (w : World) (ho : OwnR lo hi w sArb [.slice a0 n0 c0, .slice a1 n1 c1] (arbDat xs0 xs1)) (h0 : 0 ≤ q) (h1 : q ≤ 900000000) (b0 : n0 ≤ 1048576) (b1 : n1 ≤ 1048576) :
    Calls Try.prog 13 #[.agg #[.slice a0 n0 c0, .slice a1 n1 c1], .int .i64 q] w fun e w' => e = .returned (.int .i64 (q + (n0 : Int) + (n1 : Int))) ∧ OwnR lo hi w' sArb [.slice a0 n0 c0, .slice a1 n1 c1] (arbMarks n0 n1 q) ∧ ChgR lo hi w w' := by
  obtain ⟨hh, B, hn, hr, ho⟩ := ho
  have L := own_st (show Own w (.st [.sl .int, .sl .int]) [.slice a0 n0 c0, .slice a1 n1 c1] (.s [.l (xs0.map Dat.i), .l (xs1.map Dat.i)]) B from ho)
  clear ho
  obtain ⟨B0, R0, rfl, O0, L⟩ := ownL_sl L
  obtain ⟨B1, R1, rfl, O1, L⟩ := ownL_sl L
  obtain rfl : R1 = [] := by unfold OwnL at L; exact L.2.2
  clear L
  have D0 : ∀ b ∈ B0, b < w.heap.size := fun b hb => Nat.lt_of_lt_of_le (hr b (by simp [hb])).2 hh
  have D1 : ∀ b ∈ B1, b < w.heap.size := fun b hb => Nat.lt_of_lt_of_le (hr b (by simp [hb])).2 hh
  have N0_1 : ∀ b ∈ B0, b ∉ B1 := fun b hb h2 => nodup_r hn b hb (by simp [h2])
  have N1_0 : ∀ b ∈ B1, b ∉ B0 := fun b hb h2 => N0_1 b h2 hb
  have HO0 := hid O0
  have HD0 := hid D0
  have HO1 := hid O1
  have HD1 := hid D1
  have HN0_1 := hid N0_1
  have HN1_0 := hid N1_0
  have HND := hid hn
  have HR := hid hr
  clear hn hr O0 D0 O1 D1 N0_1 N1_0
  go_enter Try.func13, Try.ntmps13
  go_wp2_with (fail)
  refine (markIntS_b xs0 a0 n0 c0 B0 (q) _ (HO0.out.of (by ((try simp only [ext_drew]); (try simp only [ext_ext]); repeat (first | exact Ext.refl _ | with_reducible apply Ext.add | with_reducible apply Ext.dr | apply Ext.alloc | apply Ext.ext | apply Ext.drew | refine Ext.trans ?_ (by assumption)))) HD0.out) (by omega) (by omega) b0).mono ?_
  rintro e w0 ⟨rfl, m0, C0⟩
  have Z0 : w.heap.size ≤ w0.heap.size := Nat.le_trans (Ext.size (by ((try simp only [ext_drew]); (try simp only [ext_ext]); repeat (first | exact Ext.refl _ | with_reducible apply Ext.add | with_reducible apply Ext.dr | apply Ext.alloc | apply Ext.ext | apply Ext.drew | refine Ext.trans ?_ (by assumption))))) C0.size
  have P1_0 := hid (Own.chg (HO1.out.of (by ((try simp only [ext_drew]); (try simp only [ext_ext]); repeat (first | exact Ext.refl _ | with_reducible apply Ext.add | with_reducible apply Ext.dr | apply Ext.alloc | apply Ext.ext | apply Ext.drew | refine Ext.trans ?_ (by assumption)))) HD1.out) C0 (fun b hb => Nat.lt_of_lt_of_le (HD1.out b hb) (Ext.size (by ((try simp only [ext_drew]); (try simp only [ext_ext]); repeat (first | exact Ext.refl _ | with_reducible apply Ext.add | with_reducible apply Ext.dr | apply Ext.alloc | apply Ext.ext | apply Ext.drew | refine Ext.trans ?_ (by assumption)))))) HN1_0.out)
  have P0_0 := hid m0
  have g0_0 : w0.cell? ⟨w.heap.size, 0, none⟩ = some (.slice a0 n0 c0) := (C0.cell (by simp [go_sem]) (fun h => Nat.lt_irrefl _ (HD0.out _ h)) 0).trans (by simp [go_sem])
  have g0_1 : w0.cell? ⟨w.heap.size, 1, none⟩ = some (.slice a1 n1 c1) := (C0.cell (by simp [go_sem]) (fun h => Nat.lt_irrefl _ (HD0.out _ h)) 1).trans (by simp [go_sem])
  have Y0 : w.heap.size + 1 ≤ w0.heap.size := Nat.le_trans (by simp [go_sem]) C0.size
  have HC0 := hid C0
  clear m0 C0
  go_wp2_with (fail)
  refine (markIntS_b xs1 a1 n1 c1 B1 (q + (n0 : Int)) _ P1_0.out (by omega) (by omega) b1).mono ?_
  rintro e w1 ⟨rfl, m1, C1⟩
  have Z1 : w.heap.size ≤ w1.heap.size := Nat.le_trans Z0 C1.size
  have P0_1 := hid (Own.chg P0_0.out C1 (fun b hb => Nat.lt_of_lt_of_le (HD0.out b hb) Z0) HN0_1.out)
  have P1_1 := hid m1
  have g1_0 : w1.cell? ⟨w.heap.size, 0, none⟩ = some (.slice a0 n0 c0) := (C1.cell (Nat.lt_of_succ_le Y0) (fun h => Nat.lt_irrefl _ (HD1.out _ h)) 0).trans (by simp [go_sem, g0_0])
  have g1_1 : w1.cell? ⟨w.heap.size, 1, none⟩ = some (.slice a1 n1 c1) := (C1.cell (Nat.lt_of_succ_le Y0) (fun h => Nat.lt_irrefl _ (HD1.out _ h)) 1).trans (by simp [go_sem, g0_1])
  have Y1 : w.heap.size + 1 ≤ w1.heap.size := Nat.le_trans Y0 C1.size
  have HC1 := hid C1
  clear m1 C1 Y0 g0_0 g0_1
  try go_wp2_with (first
      | fail
      | (
        with_reducible refine wp_region_mix (by kernel_rfl) (by decide +kernel) ?_
        repeat (first
          | (refine mix_pure rfl ?_; (first | go_big_quiet_skip | (go_big_quiet_want; go_big_quiet_op; go_big_quiet_on)); refine wpQuiet_nil ?_)
          | (refine mix_skip (by rfl) ?_; (try simp only [Act.put, List.setIfInBounds_toArray, List.set_cons_zero, List.set_cons_succ]))
          | (refine mix_mk rfl (by rfl) (fun K hK => ?_); (first | (go_simp; first | skip)); (show K _ _); refine hK _ _ (show Ext _ _ from (by ((try simp only [ext_drew]); (try simp only [ext_ext]); repeat (first | exact Ext.refl _ | with_reducible apply Ext.add | with_reducible apply Ext.dr | apply Ext.alloc | apply Ext.ext | apply Ext.drew | refine Ext.trans ?_ (by assumption))))) ?_; clear hK K; (try simp only [Act.put, List.setIfInBounds_toArray, List.set_cons_zero, List.set_cons_succ])))
        refine mix_nil ?_)
      | (
        with_reducible refine wp_region_ext (by kernel_rfl) (by kernel_rfl) ?_
        repeat (first | go_big_quiet_skip | (go_big_quiet_want; go_big_quiet_op; first | go_big_quiet_on | (apply Exists.intro; refine ⟨fun _ => ?_, ?_⟩; (fail); (try rw [h1]); (try rw [h2]); (try rw [h3]); (try rw [h4]); (try rw [p1]); (try rw [p2]); (try rw [p3]); (try rw [p4]); (try rw [r1]); (try rw [r2]); (try rw [r3]); (try rw [r4]); (try rw [r5]); (try rw [r6]); (try rw [q3]); (try rw [q4]); (try rw [hp]); (try rw [hq]); go_big_quiet_on)))
        refine wpQuiet_nil ?_
        rintro _ ⟨tq, rfl⟩))
  go_ret
  refine ⟨ret_int (by omega), ?_, ?_⟩
  · exact ⟨Nat.le_trans hh Z1, _, HND.out, HR.out, own_st_mk (ownL_mk P0_1.out (ownL_mk P1_1.out ownL_nil))⟩
  · exact Chg.toR (Chg.trans (Chg.trans (Chg.of_ext (show Ext w _ from (by ((try simp only [ext_drew]); (try simp only [ext_ext]); repeat (first | exact Ext.refl _ | with_reducible apply Ext.add | with_reducible apply Ext.dr | apply Ext.alloc | apply Ext.ext | apply Ext.drew | refine Ext.trans ?_ (by assumption))))) _) (Chg.mono HC0.out (fun b hb => by simp [hb]))) (Chg.mono HC1.out (fun b hb => by simp [hb]))) HR.out

set_option maxRecDepth 100000 in
set_option maxHeartbeats 2000000 in
theorem heldArb_c  (a0 : Option Addr) (c0 : Nat) (a1 : Option Addr) (c1 : Nat) (n0 n1 : Nat) (q : Int) (w : World) (hx : Re w sArb [.slice a0 n0 c0, .slice a1 n1 c1] (arbMarks n0 n1 q)) (h0 : 0 ≤ q) (h1 : q ≤ 900000000) (b0 : n0 ≤ 1048576) (b1 : n1 ≤ 1048576) :
    Calls Try.prog 14 #[.agg #[.slice a0 n0 c0, .slice a1 n1 c1], .int .i64 q] w fun e w' => e = .returned (.int .i64 (q + (n0 : Int) + (n1 : Int))) ∧ Ext w w' := by
  have hR := re_Arb hx
  have HE0 := hid hR.1
  have HE1 := hid hR.2
  clear hR hx
  go_enter Try.func14, Try.ntmps14
  try go_wp2_with (first
      | (go_at_call 36; (with_reducible refine (heldIntS_c a0 n0 c0 (q) _ (HE0.out.of (by ((try simp only [ext_drew]); (try simp only [ext_ext]); repeat (first | exact Ext.refl _ | with_reducible apply Ext.add | with_reducible apply Ext.dr | apply Ext.alloc | apply Ext.ext | apply Ext.drew | refine Ext.trans ?_ (by assumption))))) (by omega) (by omega) b0).mono ?_); rintro e w' ⟨rfl, t, rfl⟩) | (go_at_call 36; (with_reducible refine (heldIntS_c a1 n1 c1 (q + (n0 : Int)) _ (HE1.out.of (by ((try simp only [ext_drew]); (try simp only [ext_ext]); repeat (first | exact Ext.refl _ | with_reducible apply Ext.add | with_reducible apply Ext.dr | apply Ext.alloc | apply Ext.ext | apply Ext.drew | refine Ext.trans ?_ (by assumption))))) (by omega) (by omega) b1).mono ?_); rintro e w' ⟨rfl, t, rfl⟩)
      | (
        with_reducible refine wp_region_mix (by kernel_rfl) (by decide +kernel) ?_
        repeat (first
          | (refine mix_pure rfl ?_; (first | go_big_quiet_skip | (go_big_quiet_want; go_big_quiet_op; go_big_quiet_on)); refine wpQuiet_nil ?_)
          | (refine mix_skip (by rfl) ?_; (try simp only [Act.put, List.setIfInBounds_toArray, List.set_cons_zero, List.set_cons_succ]))
          | (refine mix_mk rfl (by rfl) (fun K hK => ?_); (first | (go_simp; first | (go_at_call 36; (with_reducible refine (heldIntS_c a0 n0 c0 (q) _ (HE0.out.of (by ((try simp only [ext_drew]); (try simp only [ext_ext]); repeat (first | exact Ext.refl _ | with_reducible apply Ext.add | with_reducible apply Ext.dr | apply Ext.alloc | apply Ext.ext | apply Ext.drew | refine Ext.trans ?_ (by assumption))))) (by omega) (by omega) b0).mono ?_); rintro e w' ⟨rfl, t, rfl⟩) | (go_at_call 36; (with_reducible refine (heldIntS_c a1 n1 c1 (q + (n0 : Int)) _ (HE1.out.of (by ((try simp only [ext_drew]); (try simp only [ext_ext]); repeat (first | exact Ext.refl _ | with_reducible apply Ext.add | with_reducible apply Ext.dr | apply Ext.alloc | apply Ext.ext | apply Ext.drew | refine Ext.trans ?_ (by assumption))))) (by omega) (by omega) b1).mono ?_); rintro e w' ⟨rfl, t, rfl⟩) | skip)); (show K _ _); refine hK _ _ (show Ext _ _ from (by ((try simp only [ext_drew]); (try simp only [ext_ext]); repeat (first | exact Ext.refl _ | with_reducible apply Ext.add | with_reducible apply Ext.dr | apply Ext.alloc | apply Ext.ext | apply Ext.drew | refine Ext.trans ?_ (by assumption))))) ?_; clear hK K; (try simp only [Act.put, List.setIfInBounds_toArray, List.set_cons_zero, List.set_cons_succ])))
        refine mix_nil ?_)
      | (
        with_reducible refine wp_region_ext (by kernel_rfl) (by kernel_rfl) ?_
        repeat (first | go_big_quiet_skip | (go_big_quiet_want; go_big_quiet_op; first | go_big_quiet_on | (apply Exists.intro; refine ⟨fun _ => ?_, ?_⟩; (fail); (try rw [h1]); (try rw [h2]); (try rw [h3]); (try rw [h4]); (try rw [p1]); (try rw [p2]); (try rw [p3]); (try rw [p4]); (try rw [r1]); (try rw [r2]); (try rw [r3]); (try rw [r4]); (try rw [r5]); (try rw [r6]); (try rw [q3]); (try rw [q4]); (try rw [hp]); (try rw [hq]); go_big_quiet_on)))
        refine wpQuiet_nil ?_
        rintro _ ⟨tq, rfl⟩))
  go_ret
  exact ⟨ret_int (by omega), (by ((try simp only [ext_drew]); (try simp only [ext_ext]); repeat (first | exact Ext.refl _ | with_reducible apply Ext.add | with_reducible apply Ext.dr | apply Ext.alloc | apply Ext.ext | apply Ext.drew | refine Ext.trans ?_ (by assumption))))⟩

end Go.Proofs.Ytcfbfpgcfnpdgaa
